/- What functions of the program answer. No condition. -/
import Derived.Test.YtipphcjgdebecaaSC
import Derived.Test.YtipphcjgdebecaaSE
import Derived.Test.YtipphcjgdebecaaSF
import Derived.Test.YtipphcjgdebecaaSH
set_option linter.all false
set_option maxRecDepth 100000
set_option maxHeartbeats 8000000
namespace Go.Proofs.Ytipphcjgdebecaa.PA
open Go.RowKit Go.Proofs.YtipphcjgdebecaaW.PrintWords Go.Proofs.YtipphcjgdebecaaW.PrintLast Go.Proofs.YtipphcjgdebecaaW.PrintMore
attribute [local go_sem] qas qau max_two min_two qao qap qat qav
attribute [local go_sem] Oper.semAt_some
def bAt (L : Array Bool) (i : Nat) : Bool := L.getD i false
def valid10 (L : Array Bool) : Bool := L.size == 7 && (!bAt L 2 || bAt L 1) && (!bAt L 3 || (bAt L 0 && bAt L 2)) && (!bAt L 5 || bAt L 3) && (!bAt L 6 || (bAt L 5 && bAt L 4))
def check10 (ops : Array Oper) (L : Array Bool) : Bool :=
 !valid10 L || ((Region.ready .any ops L).all (fun i => decide (i < 7) && !bAt L i && valid10 (L.setIfInBounds i true)) && (!(Region.ready .any ops L).isEmpty || L.all id) && (!L.all id || (Region.ready .any ops L).isEmpty))
def all10 : List (Array Bool) := (List.range 128).map fun k => #[k.testBit 0, k.testBit 1, k.testBit 2, k.testBit 3, k.testBit 4, k.testBit 5, k.testBit 6]
theorem mem_all10 (L : Array Bool) (h : L.size = 7) : L ∈ all10 := by
 obtain ⟨l⟩ := L
 match l, h with
 | [a, b, c, d, e, f, g], _ => cases a <;> cases b <;> cases c <;> cases d <;> cases e <;> cases f <;> cases g <;> decide
theorem opIn_value {n : Nat} {P : Program} {ops : Array Oper} {Q : Exit → Act → World → Prop} {i : Nat} {K : Act → World → Prop} {a : Act} {w w1 : World} {o : Oper} {v : Value} {l : Nat} (hi : ops[i]? = some o) (hg : o.guard = none)
  (hd : ∀ c, o.op ≠ .defer c) (hrun : (execOp a.eval o).run P w = .ok (.value v) w1) (h : K (a.put o.dst v) w1) : wpOpIn (Fence.wide.inRound l) n P ops Q i K a w := by
 refine wpOpIn_step hi fun K' hK => ?_
 have hw : Region.wanted o (yielded ops a.tmps) = true := by simp [Region.wanted, hg]
 rw [if_pos hw]
 unfold Oper.wpIn
 refine ⟨fun f hf => trivial, ?_⟩
 rw [Oper.semAt_eq _ _ _ hd, hrun]
 exact hK _ _ h
theorem opIn_skip {n : Nat} {P : Program} {ops : Array Oper} {Q : Exit → Act → World → Prop} {i : Nat} {K : Act → World → Prop} {a : Act} {w w1 : World} {o : Oper} {l : Nat} (hi : ops[i]? = some o) (hg : o.guard = none)
  (hd : ∀ c, o.op ≠ .defer c) (hrun : (execOp a.eval o).run P w = .ok .skip w1) (h : K (a.put o.dst undef) w1) : wpOpIn (Fence.wide.inRound l) n P ops Q i K a w := by
 refine wpOpIn_step hi fun K' hK => ?_
 have hw : Region.wanted o (yielded ops a.tmps) = true := by simp [Region.wanted, hg]
 rw [if_pos hw]
 unfold Oper.wpIn
 refine ⟨fun f hf => trivial, ?_⟩
 rw [Oper.semAt_eq _ _ _ hd, hrun]
 exact hK _ _ h
structure St10 (L : Array Bool) (a : Act) (gx go gy x : Nat) (vo v1 vs vy : Value) (xi : Int) : Prop where
 size : a.tmps.size = 73
 s13 : a.tmps.getD 13 undef = .pointer (some ⟨go, 0, none⟩)
 s14 : a.tmps.getD 14 undef = .pointer (some ⟨gx, 0, none⟩)
 s17 : a.tmps.getD 17 undef = .int .i64 xi
 s18 : a.tmps.getD 18 undef = .pointer (some ⟨gy, 0, none⟩)
 d0 : bAt L 0 = true → a.tmps.getD 67 undef = vo
 d1 : bAt L 1 = true → a.tmps.getD 68 undef = .int .i64 xi
 d2 : bAt L 2 = true → a.tmps.getD 69 undef = vs
 d3 : bAt L 3 = true → a.tmps.getD 70 undef = v1
 d4 : bAt L 4 = true → a.tmps.getD 71 undef = vy
theorem bAt_set {L : Array Bool} {i j : Nat} (hi : i < L.size) : bAt (L.setIfInBounds i true) j = (if i = j then true else bAt L j) := by
 unfold bAt
 by_cases h : i = j
 ·
  subst h
  simp [hi]
 ·
  simp [h, Array.getD_eq_getD_getElem?, Array.getElem?_setIfInBounds]
theorem getD_put {a : Act} {k j : Nat} {v : Value} (hk : k < a.tmps.size) : (a.put (some k) v).tmps.getD j undef = (if k = j then v else a.tmps.getD j undef) := by
 show (a.tmps.setIfInBounds k v).getD j undef = _
 by_cases h : k = j
 ·
  subst h
  simp [hk]
 ·
  simp [h, Array.getD_eq_getD_getElem?, Array.getElem?_setIfInBounds]
theorem St10.put {L : Array Bool} {a : Act} {gx go gy x : Nat} {vo v1 vs vy v : Value} {xi : Int} (h : St10 L a gx go gy x vo v1 vs vy xi) (i k : Nat) (hL : i < L.size) (hk : k < 73) (hki : k ≠ 13 ∧ k ≠ 14 ∧ k ≠ 17 ∧ k ≠ 18)
  (h0 : k = 67 → v = vo) (h1 : k = 68 → v = .int .i64 xi) (h2 : k = 69 → v = vs) (h3 : k = 70 → v = v1) (h4 : k = 71 → v = vy) (hi : i = k - 67) (hk2 : 67 ≤ k) : St10 (L.setIfInBounds i true) (a.put (some k) v) gx go gy x vo v1 vs vy xi := by
 have hks : k < a.tmps.size := by rw [h.size]; exact hk
 have key : ∀ (j kk : Nat) (u : Value), kk = j + 67 → (k = kk → v = u) → (bAt L j = true → a.tmps.getD kk undef = u) → bAt (L.setIfInBounds i true) j = true → (a.put (some k) v).tmps.getD kk undef = u := by
  intro j kk u hkk hvu hd hb
  rw [getD_put hks]
  by_cases e : k = kk
  ·
   rw [if_pos e]; exact hvu e
  ·
   rw [if_neg e]
   rw [bAt_set hL, if_neg (by omega)] at hb
   exact hd hb
 have far : ∀ (j : Nat) (u : Value), k ≠ j → a.tmps.getD j undef = u → (a.put (some k) v).tmps.getD j undef = u := fun j u hj hu => by rw [getD_put hks, if_neg hj]; exact hu
 exact ⟨by show (a.tmps.setIfInBounds k v).size = 73; simp [h.size], far _ _ hki.1 h.s13, far _ _ hki.2.1 h.s14, far _ _ hki.2.2.1 h.s17, far _ _ hki.2.2.2 h.s18, key 0 67 vo rfl h0 h.d0, key 1 68 _ rfl h1 h.d1, key 2 69 vs rfl h2 h.d2, key 3 70 v1 rfl h3 h.d3, key 4 71 vy rfl h4 h.d4⟩
theorem St10.skip {L : Array Bool} {a : Act} {gx go gy x : Nat} {vo v1 vs vy : Value} {xi : Int} (h : St10 L a gx go gy x vo v1 vs vy xi) (i : Nat) (hL : i < L.size) (hi : 5 ≤ i) : St10 (L.setIfInBounds i true) a gx go gy x vo v1 vs vy xi :=
 ⟨h.size, h.s13, h.s14, h.s17, h.s18, fun hb => h.d0 (by rwa [bAt_set hL, if_neg (by omega)] at hb), fun hb => h.d1 (by rwa [bAt_set hL, if_neg (by omega)] at hb), fun hb => h.d2 (by rwa [bAt_set hL, if_neg (by omega)] at hb), fun hb => h.d3 (by rwa [bAt_set hL, if_neg (by omega)] at hb), fun hb => h.d4 (by rwa [bAt_set hL, if_neg (by omega)] at hb)⟩
def wd10 (w0 w1 w2 w3 w4 : World) (L : Array Bool) : World := if bAt L 6 = true then w4 else if bAt L 5 = true then w3 else if bAt L 3 = true then w2 else if bAt L 2 = true then w1 else w0
def cnt10 (L : Array Bool) : Nat := (bAt L 0).toNat + (bAt L 1).toNat + (bAt L 2).toNat + (bAt L 3).toNat + (bAt L 4).toNat + (bAt L 5).toNat + (bAt L 6).toNat
theorem valid_size {L : Array Bool} (h : valid10 L = true) : L.size = 7 := by
 unfold valid10 at h
 simp only [Bool.and_eq_true, beq_iff_eq] at h
 exact h.1.1.1.1
theorem valid_imp {L : Array Bool} (h : valid10 L = true) : (bAt L 2 = true → bAt L 1 = true) ∧ (bAt L 3 = true → bAt L 0 = true ∧ bAt L 2 = true) ∧ (bAt L 5 = true → bAt L 3 = true) ∧ (bAt L 6 = true → bAt L 5 = true ∧ bAt L 4 = true) := by
 unfold valid10 at h
 simp only [Bool.and_eq_true, Bool.or_eq_true, Bool.not_eq_true'] at h
 obtain ⟨⟨⟨⟨_, a⟩, b⟩, c⟩, d⟩ := h
 refine ⟨fun e => ?_, fun e => ?_, fun e => ?_, fun e => ?_⟩
 ·
  rcases a with a | a
  ·
   rw [e] at a; cases a
  ·
   exact a
 ·
  rcases b with b | b
  ·
   rw [e] at b; cases b
  ·
   exact b
 ·
  rcases c with c | c
  ·
   rw [e] at c; cases c
  ·
   exact c
 ·
  rcases d with d | d
  ·
   rw [e] at d; cases d
  ·
   exact d
theorem cnt_set {L : Array Bool} (hL : L.size = 7) {i : Nat} (hi : i < 7) (hb : bAt L i = false) : cnt10 (L.setIfInBounds i true) = cnt10 L + 1 := by
 unfold cnt10
 have B := fun j => bAt_set (L := L) (i := i) (j := j) (by omega)
 simp only [B]
 match i, hi with
 | 0, _ => simp [hb]; omega
 | 1, _ => simp [hb]; omega
 | 2, _ => simp [hb]; omega
 | 3, _ => simp [hb]; omega
 | 4, _ => simp [hb]; omega
 | 5, _ => simp [hb]; omega
 | 6, _ => simp [hb]
theorem cnt_all {L : Array Bool} (hL : L.size = 7) (h : cnt10 L = 7) : L.all id = true := by
 obtain ⟨l⟩ := L
 match l, hL with
 | [a, b, c, d, e, f, g], _ => cases a <;> cases b <;> cases c <;> cases d <;> cases e <;> cases f <;> cases g <;> simp [cnt10, bAt] at h ⊢
theorem check_done {ops : Array Oper} {L : Array Bool} (h : check10 ops L = true) (hv : valid10 L = true) (ha : L.all id = true) : Region.ready .any ops L = [] := by
 unfold check10 at h
 rw [hv, ha] at h
 simp at h
 exact h.2
theorem check_all {ops : Array Oper} {L : Array Bool} (h : check10 ops L = true) (hv : valid10 L = true) (hr : Region.ready .any ops L = []) : L.all id = true := by
 unfold check10 at h
 rw [hv, hr] at h
 simp at h
 simpa using h
theorem check_mem {ops : Array Oper} {L : Array Bool} (h : check10 ops L = true) (hv : valid10 L = true) {i : Nat} (hi : i ∈ Region.ready .any ops L) : i < 7 ∧ bAt L i = false ∧ valid10 (L.setIfInBounds i true) = true := by
 unfold check10 at h
 rw [hv] at h
 simp only [Bool.not_true, Bool.false_or, Bool.and_eq_true, List.all_eq_true] at h
 have := h.1.1 i hi
 simp only [Bool.and_eq_true, decide_eq_true_eq, Bool.not_eq_true'] at this
 exact ⟨this.1.1, this.1.2, this.2⟩
theorem all_bit {L : Array Bool} (h : L.all id = true) (hs : 6 < L.size) : bAt L 6 = true := by
 rw [Array.all_eq_true] at h
 have := h 6 hs
 simpa [bAt, hs] using this
theorem wd_all {w0 w1 w2 w3 w4 : World} {L : Array Bool} (h : L.all id = true) (hs : 6 < L.size) : wd10 w0 w1 w2 w3 w4 L = w4 := by
 unfold wd10
 rw [all_bit h hs, if_pos rfl]
theorem wd_set {w0 w1 w2 w3 w4 : World} {L : Array Bool} {i : Nat} (hi : i < L.size) (hn : i = 0 ∨ i = 1 ∨ i = 4) : wd10 w0 w1 w2 w3 w4 (L.setIfInBounds i true) = wd10 w0 w1 w2 w3 w4 L := by
 have e2 : bAt (L.setIfInBounds i true) 2 = bAt L 2 := by rw [bAt_set hi, if_neg (by omega)]
 have e3 : bAt (L.setIfInBounds i true) 3 = bAt L 3 := by rw [bAt_set hi, if_neg (by omega)]
 have e5 : bAt (L.setIfInBounds i true) 5 = bAt L 5 := by rw [bAt_set hi, if_neg (by omega)]
 have e6 : bAt (L.setIfInBounds i true) 6 = bAt L 6 := by rw [bAt_set hi, if_neg (by omega)]
 unfold wd10
 rw [e2, e3, e5, e6]
theorem region10 {n l : Nat} {Q : Exit → Act → World → Prop} {a : Act} {W : World} {ops : Array Oper} {id : Nat} {t0 t1 t2 t4 t5 t6 : TypeId} {p0 p1 p2 p3 p4 p5 p6 : String} {f0 f1 f2 f3 f4 f5 f6 : Array Edge}
  (h0 : ops[0]? = some { dst := some 67, op := .load 47 (.tmp 13), type := t0, pos := p0, after := f0, guard := none })
  (h1 : ops[1]? = some { dst := some 68, op := .move (.tmp 17), type := t1, pos := p1, after := f1, guard := none })
  (h2 : ops[2]? = some { dst := some 69, op := .buildSlice 47 1 #[(0, .tmp 68)], type := t2, pos := p2, after := f2, guard := none })
  (h3 : ops[3]? = some { dst := some 70, op := .call { callee := .builtin .append, args := #[.tmp 67, .tmp 69], argTypes := #[47, 47] }, type := 47, pos := p3, after := f3, guard := none })
  (h4 : ops[4]? = some { dst := some 71, op := .load 123 (.tmp 18), type := t4, pos := p4, after := f4, guard := none })
  (h5 : ops[5]? = some { dst := none, op := .store 47 (.tmp 13) (.tmp 70), type := t5, pos := p5, after := f5, guard := none })
  (h6 : ops[6]? = some { dst := none, op := .store 123 (.tmp 14) (.tmp 71), type := t6, pos := p6, after := f6, guard := none })
  (hsz : ops.size = 7) (hV : all10.all (check10 ops) = true)
  {gx go gy x : Nat} {oA pA : Option Addr} {on oc pn pc : Nat} {xi y0 y1 y2 n0 n1 n2 : Int}
  (hs : St10 (Array.replicate 7 false) a gx go gy x (.slice oA on oc) (.slice pA pn pc) (.slice (some ⟨W.heap.size, 0, none⟩) 1 1) (.agg #[.int .i64 y0, .int .i64 y1, .int .i64 y2]) xi)
  (bo : W.heap[go]? = some (.cells #[.slice oA on oc] 47 (0, 0))) (by_ : W.heap[gy]? = some (.cells #[.int .i64 y0, .int .i64 y1, .int .i64 y2] 123 (0, 0))) {w1 : World}
  (hrun : (Builtin.append_ #[47, 47] 47 #[.slice oA on oc, .slice (some ⟨W.heap.size, 0, none⟩) 1 1]).run Try.prog (W.drew.alloc (.cells #[.int .i64 xi] 3)) = .ok (.slice pA pn pc) w1)
  (bo1 : w1.heap[go]? = some (.cells #[.slice oA on oc] 47 (0, 0))) (by1 : w1.heap[gy]? = some (.cells #[.int .i64 y0, .int .i64 y1, .int .i64 y2] 123 (0, 0))) (bx1 : w1.heap[gx]? = some (.cells #[.int .i64 n0, .int .i64 n1, .int .i64 n2] 123 (0, 0))) (nxo : gx ≠ go) (nyo : gy ≠ go)
  (hQ : ∀ a', Q .normal a' ((((w1.setCell ⟨go, 0, none⟩ (.slice pA pn pc)).setCell ⟨gx, 0, none⟩ (.int .i64 y0)).setCell ⟨gx, 1, none⟩ (.int .i64 y1)).setCell ⟨gx, 2, none⟩ (.int .i64 y2))) :
  (Code.region id ops true).wpIn (Fence.wide.inRound l) n Try.prog Q a W := by
 have hmx : Try.prog.follows .mixedOrders = true := by kernel_rfl
 refine wpIn_region_any hmx ?_
 rw [hsz]
 have bx3 := blk_far (p := ⟨go, 0, none⟩) bx1 nxo (.slice pA pn pc)
 have by3 := blk_far (p := ⟨go, 0, none⟩) by1 nyo (.slice pA pn pc)
 have hu123 := Try.underlying123
 have HQ := qab.mk hQ
 clear hQ
 have key : ∀ (fuel : Nat) (L : Array Bool) (a : Act), valid10 L = true → cnt10 L + fuel = 7 → St10 L a gx go gy x (.slice oA on oc) (.slice pA pn pc) (.slice (some ⟨W.heap.size, 0, none⟩) 1 1) (.agg #[.int .i64 y0, .int .i64 y1, .int .i64 y2]) xi →
   wpAnyIn (Fence.wide.inRound l) n Try.prog .any ops Q fuel L a (wd10 W.drew (W.drew.alloc (.cells #[.int .i64 xi] 3)) w1 (w1.setCell ⟨go, 0, none⟩ (.slice pA pn pc)) ((((w1.setCell ⟨go, 0, none⟩ (.slice pA pn pc)).setCell ⟨gx, 0, none⟩ (.int .i64 y0)).setCell ⟨gx, 1, none⟩ (.int .i64 y1)).setCell ⟨gx, 2, none⟩ (.int .i64 y2)) L) := by
  intro fuel
  induction fuel with
  | zero =>
   intro L a hv hc hst
   have hLs : L.size = 7 := valid_size hv
   have hck := List.all_eq_true.1 hV L (mem_all10 L hLs)
   have hall := cnt_all hLs (by omega)
   refine wpAnyIn_done (check_done hck hv hall) ?_ 0
   rw [wd_all hall (by omega)]
   exact HQ.out a
  | succ fuel ih =>
   intro L a hv hc hst
   have hLs : L.size = 7 := valid_size hv
   have hck := List.all_eq_true.1 hV L (mem_all10 L hLs)
   refine ⟨fun h0 => by rw [wd_all (check_all hck hv h0) (by omega)]; exact HQ.out a, fun i hi => ?_⟩
   obtain ⟨i7, hbi, hvi⟩ := check_mem hck hv hi
   have hcn := cnt_set hLs i7 hbi
   have hiL : i < L.size := by omega
   have B := fun j => bAt_set (L := L) (i := i) (j := j) hiL
   have pv := valid_imp hv
   have pvi := valid_imp hvi
   have nb : ∀ {j k : Nat}, (bAt L j = true → bAt L k = true) → bAt L k = false → bAt L j = false := fun h hk => by
    cases hb : bAt L _ with
    | false => rfl
    | true => rw [h hb] at hk; cases hk
   have B' := B
   match i, i7 with
   | 0, _ =>
    have b3 := nb (fun h => (pv.2.1 h).1) hbi
    have b5 := nb pv.2.2.1 b3
    have b6 := nb (fun h => (pv.2.2.2 h).1) b5
    have hco : ((wd10 W.drew (W.drew.alloc (.cells #[.int .i64 xi] 3)) w1 (w1.setCell ⟨go, 0, none⟩ (.slice pA pn pc)) ((((w1.setCell ⟨go, 0, none⟩ (.slice pA pn pc)).setCell ⟨gx, 0, none⟩ (.int .i64 y0)).setCell ⟨gx, 1, none⟩ (.int .i64 y1)).setCell ⟨gx, 2, none⟩ (.int .i64 y2)) L)).cell? ⟨go, 0, none⟩ = some (.slice oA on oc) := by
     unfold wd10
     rw [b6, b5, b3]
     cases bAt L 2
     ·
      exact qaa (w := W.drew) bo 0
     ·
      exact qaa (qan (w := W.drew) bo _) 0
    refine opIn_value h0 rfl (by intro c hc; cases hc) (v := .slice oA on oc) (w1 := (wd10 W.drew (W.drew.alloc (.cells #[.int .i64 xi] 3)) w1 (w1.setCell ⟨go, 0, none⟩ (.slice pA pn pc)) ((((w1.setCell ⟨go, 0, none⟩ (.slice pA pn pc)).setCell ⟨gx, 0, none⟩ (.int .i64 y0)).setCell ⟨gx, 1, none⟩ (.int .i64 y1)).setCell ⟨gx, 2, none⟩ (.int .i64 y2)) L)) ?_ ?_
    ·
     have e := hst.s13
     generalize (wd10 W.drew (W.drew.alloc (.cells #[.int .i64 xi] 3)) w1 (w1.setCell ⟨go, 0, none⟩ (.slice pA pn pc)) ((((w1.setCell ⟨go, 0, none⟩ (.slice pA pn pc)).setCell ⟨gx, 0, none⟩ (.int .i64 y0)).setCell ⟨gx, 1, none⟩ (.int .i64 y1)).setCell ⟨gx, 2, none⟩ (.int .i64 y2)) L) = Wc at hco
     simp [go_sem, Act.eval, e, hco]
    ·
     have := ih (L.setIfInBounds 0 true) _ hvi (by omega) (hst.put 0 67 hiL (by decide) (by decide) (fun _ => rfl) (fun e => absurd e (by decide)) (fun e => absurd e (by decide)) (fun e => absurd e (by decide)) (fun e => absurd e (by decide)) rfl (by decide))
     rwa [wd_set (by omega) (by decide)] at this
   | 1, _ =>
    refine opIn_value h1 rfl (by intro c hc; cases hc) (v := .int .i64 xi) (w1 := (wd10 W.drew (W.drew.alloc (.cells #[.int .i64 xi] 3)) w1 (w1.setCell ⟨go, 0, none⟩ (.slice pA pn pc)) ((((w1.setCell ⟨go, 0, none⟩ (.slice pA pn pc)).setCell ⟨gx, 0, none⟩ (.int .i64 y0)).setCell ⟨gx, 1, none⟩ (.int .i64 y1)).setCell ⟨gx, 2, none⟩ (.int .i64 y2)) L)) ?_ ?_
    ·
     have e := hst.s17
     generalize (wd10 W.drew (W.drew.alloc (.cells #[.int .i64 xi] 3)) w1 (w1.setCell ⟨go, 0, none⟩ (.slice pA pn pc)) ((((w1.setCell ⟨go, 0, none⟩ (.slice pA pn pc)).setCell ⟨gx, 0, none⟩ (.int .i64 y0)).setCell ⟨gx, 1, none⟩ (.int .i64 y1)).setCell ⟨gx, 2, none⟩ (.int .i64 y2)) L) = Wc
     simp [go_sem, Act.eval, e]
    ·
     have := ih (L.setIfInBounds 1 true) _ hvi (by omega) (hst.put 1 68 hiL (by decide) (by decide) (fun e => absurd e (by decide)) (fun _ => rfl) (fun e => absurd e (by decide)) (fun e => absurd e (by decide)) (fun e => absurd e (by decide)) rfl (by decide))
     rwa [wd_set (by omega) (by decide)] at this
   | 2, _ =>
    have b3 := nb (fun h => (pv.2.1 h).2) hbi
    have b5 := nb pv.2.2.1 b3
    have b6 := nb (fun h => (pv.2.2.2 h).1) b5
    have hb1 : bAt L 1 = true := by
     have h := pvi.1 (by rw [B]; rfl)
     rwa [B, if_neg (by decide)] at h
    have hw : (wd10 W.drew (W.drew.alloc (.cells #[.int .i64 xi] 3)) w1 (w1.setCell ⟨go, 0, none⟩ (.slice pA pn pc)) ((((w1.setCell ⟨go, 0, none⟩ (.slice pA pn pc)).setCell ⟨gx, 0, none⟩ (.int .i64 y0)).setCell ⟨gx, 1, none⟩ (.int .i64 y1)).setCell ⟨gx, 2, none⟩ (.int .i64 y2)) L) = W.drew := by unfold wd10; rw [b6, b5, b3, hbi]; rfl
    rw [hw]
    refine opIn_value h2 rfl (by intro c hc; cases hc) (v := .slice (some ⟨W.heap.size, 0, none⟩) 1 1) (w1 := W.drew.alloc (.cells #[.int .i64 xi] 3)) ?_ ?_
    ·
     have e := hst.d1 hb1
     have e' : a.tmps[68]?.getD undef = .int .i64 xi := by simpa [Array.getD_eq_getD_getElem?] using e
     have hu47 := Try.underlying47
     simp [go_sem, Act.eval, e, e', hu47]
     try rfl
    ·
     have := ih (L.setIfInBounds 2 true) _ hvi (by omega) (hst.put 2 69 hiL (by decide) (by decide) (fun e => absurd e (by decide)) (fun e => absurd e (by decide)) (fun _ => rfl) (fun e => absurd e (by decide)) (fun e => absurd e (by decide)) rfl (by decide))
     have hw2 : wd10 W.drew (W.drew.alloc (.cells #[.int .i64 xi] 3)) w1 (w1.setCell ⟨go, 0, none⟩ (.slice pA pn pc)) ((((w1.setCell ⟨go, 0, none⟩ (.slice pA pn pc)).setCell ⟨gx, 0, none⟩ (.int .i64 y0)).setCell ⟨gx, 1, none⟩ (.int .i64 y1)).setCell ⟨gx, 2, none⟩ (.int .i64 y2)) (L.setIfInBounds 2 true) = W.drew.alloc (.cells #[.int .i64 xi] 3) := by
      simp [wd10, B, b6, b5, b3]
     rwa [hw2] at this
   | 3, _ =>
    have b5 := nb pv.2.2.1 hbi
    have b6 := nb (fun h => (pv.2.2.2 h).1) b5
    have hb := pvi.2.1 (by rw [B]; rfl)
    rw [B, B, if_neg (by decide), if_neg (by decide)] at hb
    have hw : (wd10 W.drew (W.drew.alloc (.cells #[.int .i64 xi] 3)) w1 (w1.setCell ⟨go, 0, none⟩ (.slice pA pn pc)) ((((w1.setCell ⟨go, 0, none⟩ (.slice pA pn pc)).setCell ⟨gx, 0, none⟩ (.int .i64 y0)).setCell ⟨gx, 1, none⟩ (.int .i64 y1)).setCell ⟨gx, 2, none⟩ (.int .i64 y2)) L) = W.drew.alloc (.cells #[.int .i64 xi] 3) := by unfold wd10; rw [b6, b5, hbi, hb.2]; rfl
    rw [hw]
    refine opIn_value h3 rfl (by intro c hc; cases hc) (v := .slice pA pn pc) (w1 := w1) ?_ ?_
    ·
     have e := hst.d0 hb.1
     have e2 := hst.d2 hb.2
     have ea : (#[Operand.tmp 67, Operand.tmp 69].map a.eval) = #[.slice oA on oc, .slice (some ⟨W.heap.size, 0, none⟩) 1 1] := by
      simp only [List.map_toArray, List.map_cons, List.map_nil, Act.eval, e, e2]
     rw [BigFrame.execOp_builtin, BigFrame.builtin_append, ea, Sem.run_bind, hrun]
     rfl
    ·
     have := ih (L.setIfInBounds 3 true) _ hvi (by omega) (hst.put 3 70 hiL (by decide) (by decide) (fun e => absurd e (by decide)) (fun e => absurd e (by decide)) (fun e => absurd e (by decide)) (fun _ => rfl) (fun e => absurd e (by decide)) rfl (by decide))
     have hw2 : wd10 W.drew (W.drew.alloc (.cells #[.int .i64 xi] 3)) w1 (w1.setCell ⟨go, 0, none⟩ (.slice pA pn pc)) ((((w1.setCell ⟨go, 0, none⟩ (.slice pA pn pc)).setCell ⟨gx, 0, none⟩ (.int .i64 y0)).setCell ⟨gx, 1, none⟩ (.int .i64 y1)).setCell ⟨gx, 2, none⟩ (.int .i64 y2)) (L.setIfInBounds 3 true) = w1 := by
      simp [wd10, B, b6, b5]
     rwa [hw2] at this
   | 4, _ =>
    have b6 := nb (fun h => (pv.2.2.2 h).2) hbi
    have hg : ((wd10 W.drew (W.drew.alloc (.cells #[.int .i64 xi] 3)) w1 (w1.setCell ⟨go, 0, none⟩ (.slice pA pn pc)) ((((w1.setCell ⟨go, 0, none⟩ (.slice pA pn pc)).setCell ⟨gx, 0, none⟩ (.int .i64 y0)).setCell ⟨gx, 1, none⟩ (.int .i64 y1)).setCell ⟨gx, 2, none⟩ (.int .i64 y2)) L)).heap[gy]? = some (.cells #[.int .i64 y0, .int .i64 y1, .int .i64 y2] 123 (0, 0)) := by
     unfold wd10
     rw [b6]
     cases bAt L 5
     ·
      cases bAt L 3
      ·
       cases bAt L 2
       ·
        exact by_
       ·
        exact qan (w := W.drew) by_ _
      ·
       exact by1
     ·
      exact by3
    refine opIn_value h4 rfl (by intro c hc; cases hc) (v := .agg #[.int .i64 y0, .int .i64 y1, .int .i64 y2]) (w1 := (wd10 W.drew (W.drew.alloc (.cells #[.int .i64 xi] 3)) w1 (w1.setCell ⟨go, 0, none⟩ (.slice pA pn pc)) ((((w1.setCell ⟨go, 0, none⟩ (.slice pA pn pc)).setCell ⟨gx, 0, none⟩ (.int .i64 y0)).setCell ⟨gx, 1, none⟩ (.int .i64 y1)).setCell ⟨gx, 2, none⟩ (.int .i64 y2)) L)) ?_ ?_
    ·
     have e := hst.s18
     generalize (wd10 W.drew (W.drew.alloc (.cells #[.int .i64 xi] 3)) w1 (w1.setCell ⟨go, 0, none⟩ (.slice pA pn pc)) ((((w1.setCell ⟨go, 0, none⟩ (.slice pA pn pc)).setCell ⟨gx, 0, none⟩ (.int .i64 y0)).setCell ⟨gx, 1, none⟩ (.int .i64 y1)).setCell ⟨gx, 2, none⟩ (.int .i64 y2)) L) = Wc at hg
     have c0 : Wc.cell? ⟨gy, 0, none⟩ = some (.int .i64 y0) := qaa hg 0
     have c1 : Wc.cell? ⟨gy, 1, none⟩ = some (.int .i64 y1) := qaa hg 1
     have c2 : Wc.cell? ⟨gy, 2, none⟩ = some (.int .i64 y2) := qaa hg 2
     simp [go_sem, Act.eval, e, c0, c1, c2, hu123]
    ·
     have := ih (L.setIfInBounds 4 true) _ hvi (by omega) (hst.put 4 71 hiL (by decide) (by decide) (fun e => absurd e (by decide)) (fun e => absurd e (by decide)) (fun e => absurd e (by decide)) (fun e => absurd e (by decide)) (fun _ => rfl) rfl (by decide))
     rwa [wd_set (by omega) (by decide)] at this
   | 5, _ =>
    have b6 := nb (fun h => (pv.2.2.2 h).1) hbi
    have hb := pvi.2.2.1 (by rw [B]; rfl)
    rw [B, if_neg (by decide)] at hb
    have hw : (wd10 W.drew (W.drew.alloc (.cells #[.int .i64 xi] 3)) w1 (w1.setCell ⟨go, 0, none⟩ (.slice pA pn pc)) ((((w1.setCell ⟨go, 0, none⟩ (.slice pA pn pc)).setCell ⟨gx, 0, none⟩ (.int .i64 y0)).setCell ⟨gx, 1, none⟩ (.int .i64 y1)).setCell ⟨gx, 2, none⟩ (.int .i64 y2)) L) = w1 := by unfold wd10; rw [b6, hbi, hb]; rfl
    rw [hw]
    refine opIn_skip h5 rfl (by intro c hc; cases hc) (w1 := w1.setCell ⟨go, 0, none⟩ (.slice pA pn pc)) ?_ ?_
    ·
     have e := hst.s13
     have e2 := hst.d3 hb
     have c0 : w1.cell? ⟨go, 0, none⟩ = some (.slice oA on oc) := qaa bo1 0
     have z0 : w1.frozen? ⟨go, 0, none⟩ = false := qac bo1 0
     simp [go_sem, Act.eval, e, e2, c0, z0]
    ·
     have := ih (L.setIfInBounds 5 true) _ hvi (by omega) (hst.skip 5 hiL (by decide))
     have hw2 : wd10 W.drew (W.drew.alloc (.cells #[.int .i64 xi] 3)) w1 (w1.setCell ⟨go, 0, none⟩ (.slice pA pn pc)) ((((w1.setCell ⟨go, 0, none⟩ (.slice pA pn pc)).setCell ⟨gx, 0, none⟩ (.int .i64 y0)).setCell ⟨gx, 1, none⟩ (.int .i64 y1)).setCell ⟨gx, 2, none⟩ (.int .i64 y2)) (L.setIfInBounds 5 true) = (w1.setCell ⟨go, 0, none⟩ (.slice pA pn pc)) := by
      simp [wd10, B, b6]
     rwa [hw2] at this
   | 6, _ =>
    have hb := pvi.2.2.2 (by rw [B]; rfl)
    rw [B, B, if_neg (by decide), if_neg (by decide)] at hb
    have hw : (wd10 W.drew (W.drew.alloc (.cells #[.int .i64 xi] 3)) w1 (w1.setCell ⟨go, 0, none⟩ (.slice pA pn pc)) ((((w1.setCell ⟨go, 0, none⟩ (.slice pA pn pc)).setCell ⟨gx, 0, none⟩ (.int .i64 y0)).setCell ⟨gx, 1, none⟩ (.int .i64 y1)).setCell ⟨gx, 2, none⟩ (.int .i64 y2)) L) = (w1.setCell ⟨go, 0, none⟩ (.slice pA pn pc)) := by unfold wd10; rw [hbi, hb.1]; rfl
    rw [hw]
    refine opIn_skip h6 rfl (by intro c hc; cases hc) (w1 := ((((w1.setCell ⟨go, 0, none⟩ (.slice pA pn pc)).setCell ⟨gx, 0, none⟩ (.int .i64 y0)).setCell ⟨gx, 1, none⟩ (.int .i64 y1)).setCell ⟨gx, 2, none⟩ (.int .i64 y2))) ?_ ?_
    ·
     have e := hst.s14
     have e2 := hst.d4 hb.2
     have c0 : (w1.setCell ⟨go, 0, none⟩ (.slice pA pn pc)).cell? ⟨gx, 0, none⟩ = some (.int .i64 n0) := qaa bx3 0
     have c1 : (w1.setCell ⟨go, 0, none⟩ (.slice pA pn pc)).cell? ⟨gx, 1, none⟩ = some (.int .i64 n1) := qaa bx3 1
     have c2 : (w1.setCell ⟨go, 0, none⟩ (.slice pA pn pc)).cell? ⟨gx, 2, none⟩ = some (.int .i64 n2) := qaa bx3 2
     have z0 : ∀ i, (w1.setCell ⟨go, 0, none⟩ (.slice pA pn pc)).frozen? ⟨gx, i, none⟩ = false := qac bx3
     generalize (w1.setCell ⟨go, 0, none⟩ (.slice pA pn pc)) = Wc at c0 c1 c2 z0
     simp [go_sem, Act.eval, e, e2, c0, c1, c2, z0, hu123]
    ·
     have := ih (L.setIfInBounds 6 true) _ hvi (by omega) (hst.skip 6 hiL (by decide))
     have hw2 : wd10 W.drew (W.drew.alloc (.cells #[.int .i64 xi] 3)) w1 (w1.setCell ⟨go, 0, none⟩ (.slice pA pn pc)) ((((w1.setCell ⟨go, 0, none⟩ (.slice pA pn pc)).setCell ⟨gx, 0, none⟩ (.int .i64 y0)).setCell ⟨gx, 1, none⟩ (.int .i64 y1)).setCell ⟨gx, 2, none⟩ (.int .i64 y2)) (L.setIfInBounds 6 true) = ((((w1.setCell ⟨go, 0, none⟩ (.slice pA pn pc)).setCell ⟨gx, 0, none⟩ (.int .i64 y0)).setCell ⟨gx, 1, none⟩ (.int .i64 y1)).setCell ⟨gx, 2, none⟩ (.int .i64 y2)) := by
      simp [wd10, B]
     rwa [hw2] at this
 have h := key 7 (Array.replicate 7 false) a (by rfl) (by rfl) hs
 exact h
theorem leave93 (E : OE) (A : Nat → Prop) (w : World) (tmps : Array Value) (v : Value) (o : List Int) (ok : Nat → Prop) (hm : E.m < w.heap.size) (hw0 : E.w0.heap.size ≤ w.heap.size) (ht : tmps.getD 12 undef = v) (R : Ending → World → Prop)
  (hfin : ∀ W, EnvInv E A W → Kd.R (Kd.int .i64) 3 W E.w0.heap.size ok v o → KB (fun k => k = E.m) w W → R (.returned v) W) :
  ∀ (Ds : List Nat) (W : World), Ds.Nodup → (∀ D ∈ Ds, W.heap[D]? = some (.deferred (some [])) ∧ w.heap.size ≤ D) → EnvInv E A W → Kd.R (Kd.int .i64) 3 W E.w0.heap.size ok v o → KB (fun k => k = E.m) w W →
   LeavesInM Fence.wide 12 Try.prog Try.f93 tmps R (Ds.map fun D => { target := .collected D, args := #[] }) .returning W := by
 intro Ds
 induction Ds with
 | nil =>
  intro W _ _ he hr hk
  refine ⟨_, results_tmp rfl _ _ _, ?_⟩
  rw [ht]
  exact hfin W he hr hk
 | cons D Ds ih =>
  intro W hnd hD he hr hk
  have h1 := hD D (by simp)
  refine ⟨by simp, .inl ⟨D, _, rfl, run_takeDeferred h1.1, ?_⟩⟩
  have hput := grownBy_putObj' W D (.deferred none)
  rw [List.nodup_cons] at hnd
  refine ih _ hnd.2 (fun D' hD' => ?_) ?_ ?_ ?_
  ·
   have h2 := hD D' (by simp [hD'])
   exact ⟨by rw [World.putObj_heap_other (by rintro rfl; exact hnd.1 hD')]; exact h2.1, h2.2⟩
  ·
   exact he.own' hput (fun r e => by injection e with e; subst e; exact ⟨by omega, by omega, _, h1.1, rfl⟩)
  ·
   refine Kd.R_mono (Kd.R_step (Kd.R_bound hr) (fun k hk' hlt => hput.block k hlt (fun e => ?_))) (fun k hk => hk.1)
   obtain ⟨q, _, cells, hc⟩ := hk'.2.2.2
   injection e with e
   subst e
   rw [h1.1] at hc
   cases hc
  ·
   exact hk.trans (KB.of_grown hput) (fun k e => .inr (by injection e with e; omega))
def fr93 (E : OE) (s : Sp) (first slack : Int) (gn gs gq gd gf go gx : Nat) (z15 z16 z22 z23 z24 z25 z26 z27 z28 z29 z30 z31 z32 t33 t34 t35 t36 t37 t38 : Value) : Array Value := #[.agg (NETC E), .agg #[.int .i64 s.p, .int .i64 s.h, .int .i64 s.r], .int .i64 first, .int .i64 slack, .slice E.Ad E.D.length E.cd, SEARCHF E, .pointer (some ⟨gn, 0, none⟩), .pointer (some ⟨gs, 0, none⟩), undef, .pointer (some ⟨gq, 0, none⟩), .pointer (some ⟨gd, 0, none⟩), .pointer (some ⟨gf, 0, none⟩), .slice none 0 0, .pointer (some ⟨go, 0, none⟩), .pointer (some ⟨gx, 0, none⟩), z15, z16, undef, undef, undef, undef, undef, z22, z23, z24, z25, z26, z27, z28, z29, z30, z31, z32, t33, t34, t35, t36, t37, t38, undef, undef, undef, undef, undef, undef, undef, undef, undef, undef, undef, undef, undef, undef, undef, undef, undef, undef, undef, undef, undef, undef, undef, undef, undef, undef, undef, undef, undef, undef, undef, undef, undef, undef]
def mu93 (gx : Nat) (W : World) : Nat := match W.cell? ⟨gx, 2, none⟩ with | some (.int _ r) => cntB r | _ => 0
theorem mu93_eq {gx : Nat} {W : World} {r : Int} (h : W.cell? ⟨gx, 2, none⟩ = some (.int .i64 r)) : mu93 gx W = cntB r := by unfold mu93; rw [h]
def LI93 (E : OE) (A : Nat → Prop) (w : World) (s : Sp) (first slack : Int) (gq gd gf go gx : Nat) (q0 q1 q2 : Int) (a : Act) (W : World) : Prop := ∃ (n : Sp) (o : List Int) (v : Value) (k : Nat) (Ds : List Nat) (z15 z16 z22 z23 z24 z25 z26 z27 z28 z29 z30 z31 z32 t33 t34 t35 t36 t37 t38 : Value), a = { tmps := fr93 E s first slack w.heap.size (w.heap.size + 1) gq gd gf go gx z15 z16 z22 z23 z24 z25 z26 z27 z28 z29 z30 z31 z32 t33 t34 t35 t36 t37 t38, defers := Ds.map fun D => { target := .collected D, args := #[] } } ∧
   qab (St93 E A w w.heap.size gq gd gf go gx slack n o v Ds W ∧ Ds.Nodup ∧ E.At n ∧ cntB n.r < cntB s.r ∧ cntB n.r ≤ k ∧ (E.S n).2.2 = true ∧ slack ≤ (E.S n).2.1 ∧ sameV E.l0 E.l2 E.D E.S slack k n o = sameV E.l0 E.l2 E.D E.S slack 5 ⟨q0, q1, q2⟩ [first] ∧ o.length + cntB n.r ≤ 5)
theorem find_at (p : Int → Bool) (l pre : List Int) (x : Int) (h : pre ++ [x] <+: l) (hn : ∀ i ∈ pre, p i = false) (hx : p x = true) : l.find? p = some x := by
 obtain ⟨t, rfl⟩ := h
 simp only [List.find?_append]
 have h1 : pre.find? p = none := by
  rw [List.find?_eq_none]
  intro i hi
  rw [hn i hi]
  simp
 rw [h1]
 simp [hx]
def IX93 (E : OE) (A : Nat → Prop) (w : World) (gq gd gf go gx : Nat) (slack : Int) (n : Sp) (o : List Int) (Ds : List Nat) (c : Code) (pre : List (LoopOf n.r)) (W : World) : Prop :=
 ∃ (pre0 : List (LoopOf n.r)) (x : LoopOf n.r) (v1 : Value), pre = pre0 ++ [x] ∧ c = .exit 2 ∧ (∀ i ∈ pre0.map (·.1), goodV E.l0 E.l2 E.D E.S slack n i = false) ∧ goodV E.l0 E.l2 E.D E.S slack n x.1 = true ∧ St93 E A w w.heap.size gq gd gf go gx slack (repV E.l0 E.l2 E.D n x.1).1 (o ++ [x.1]) v1 Ds W
theorem allocs7 (w : World) (o1 o2 o3 o4 o5 o6 o7 : Obj) : ∃ w4, ((((((w.alloc o1).alloc o2).alloc o3).alloc o4).alloc o5).alloc o6).alloc o7 = w4 ∧ w4.heap[w.heap.size]? = some o1 ∧ w4.heap[w.heap.size + 1]? = some o2 ∧ w4.heap[w.heap.size + 1 + 1]? = some o3 ∧ w4.heap[w.heap.size + 1 + 1 + 1]? = some o4 ∧
  w4.heap[w.heap.size + 1 + 1 + 1 + 1]? = some o5 ∧ w4.heap[w.heap.size + 1 + 1 + 1 + 1 + 1]? = some o6 ∧ w4.heap[w.heap.size + 1 + 1 + 1 + 1 + 1 + 1]? = some o7 ∧ w4.heap.size = w.heap.size + 7 ∧ Below w.heap.size w w4 := by
 obtain ⟨w4, hw4, a1, a2, a3, a4, hs, hb⟩ := allocs4 w o1 o2 o3 o4
 have h5 := blk_new w4 o5
 have h6 := blk_new (w4.alloc o5) o6
 have h7 := blk_new ((w4.alloc o5).alloc o6) o7
 rw [World.size_alloc] at h6
 rw [World.size_alloc, World.size_alloc] at h7
 rw [hs] at h5 h6 h7
 refine ⟨_, rfl, ?_, ?_, ?_, ?_, ?_, ?_, ?_, ?_, ?_⟩
 all_goals rw [hw4]
 ·
  exact qan (qan (qan a1 _) _) _
 ·
  exact qan (qan (qan a2 _) _) _
 ·
  exact qan (qan (qan a3 _) _) _
 ·
  exact qan (qan (qan a4 _) _) _
 ·
  exact qan (qan h5 _) _
 ·
  exact qan h6 _
 ·
  exact h7
 ·
  simp [hs]
 ·
  exact qag (qag (qag hb _) _) _
theorem R_one {W : World} {g : Nat} {x : Int} {base : Nat} {ok : Nat → Prop} (hb : W.heap[g]? = some (.cells #[.int .i64 x] 3 (0, 0))) (hg : base ≤ g) (hok : ok g) : Kd.R (Kd.int .i64) 3 W base ok (.slice (some ⟨g, 0, none⟩) 1 1) [x] :=
 Kd.R_of_own (h1 := fun _ => rfl) ⟨rfl, .inr ⟨g, 1, _, rfl, hg, hb, Nat.le_refl _, by decide, rfl, rfl⟩⟩ (fun k hk => by
  have : g = k := by simpa [Value.ownBlock] using hk
  exact this ▸ hok)
theorem same_calls (E : OE) (hE : E.Fit) (s : Sp) (hs : E.At s) (first slack : Int) (hf : first ∈ qaq s.r 5) (hrp : (repV E.l0 E.l2 E.D s first).2.2 = true) (hr : (E.S (repV E.l0 E.l2 E.D s first).1).2.2 = true) (hsl : slack ≤ (E.S (repV E.l0 E.l2 E.D s first).1).2.1)
  (IH : ∀ s', E.At s' → cntB s'.r < cntB s.r → SearchC E s') (A : Nat → Prop) (w : World) (hinv : EnvInv E A w) (hA : ∀ k, A k → k < w.heap.size) :
  Calls Try.prog 93 #[.agg (NETC E), .agg #[.int .i64 s.p, .int .i64 s.h, .int .i64 s.r], .int .i64 first, .int .i64 slack, .slice E.Ad E.D.length E.cd, SEARCHF E] w fun e w' =>
   ∃ v, e = .returned v ∧ E.Row A w' v (sameV E.l0 E.l2 E.D E.S slack 5 (repV E.l0 E.l2 E.D s first).1 [first]) ∧ EnvInv E A w' ∧ KB (fun k => k = E.m) w w' := by
 have hu99 := Try.underlying99
 have hu123 := Try.underlying123
 have hu26 := Try.underlying26
 have HB := qab.mk (Below.refl w.heap.size w)
 have hx05 : 0 ≤ first ∧ first < 5 := by
  obtain ⟨xk, hxk, hxk5, _⟩ := (mem_loopsOf s.r 5 first).1 hf
  omega
 have hx5 := hs.2.2.2 first hf
 have hrep : ∀ W, Below E.w0.heap.size E.w0 W → (Kd.int .i64).C W E.Ad E.D.length E.D → Calls Try.prog 92 #[.agg (NETC E), .agg #[.int .i64 s.p, .int .i64 s.h, .int .i64 s.r], .int .i64 first, .slice E.Ad E.D.length E.cd] W fun e w' =>
   e = .returned (.tuple #[spV (repV E.l0 E.l2 E.D s first).1, .int .i64 (repV E.l0 E.l2 E.D s first).2.1, .bool (repV E.l0 E.l2 E.D s first).2.2]) ∧ Below W.heap.size W w' := fun W hW hC =>
  repaired_calls _ _ _ _ _ _ _ _ s first _ _ E.D W (Kd.qak hE.r0 hW) (Kd.qak hE.r2 hW) hC hs.2.1 (by have := hE.h2; have := hs.2.2.1; omega) (by omega) hx5 (by rw [hE.hrow s.p hs.2.1 hs.2.2.1]; omega) (by rw [hE.hD]; omega) (by omega)
 have hnx := hs.next hf hrp
 rw [hrp] at hrep
 generalize hq : repV E.l0 E.l2 E.D s first = q at hrep hnx hr hsl ⊢
 obtain ⟨⟨q0, q1, q2⟩, ow, can⟩ := q
 simp only [spV_eq] at hrep
 try dsimp only at hrep hnx hr hsl ⊢
 have HREP := qab.mk hrep
 have HNX := qab.mk hnx
 have HSL := qab.mk (And.intro hr hsl)
 have HI := qab.mk hinv
 have HIH := qab.mk IH
 clear IH hs hinv hrep hnx hr hsl hq hrp hf hx5
 refine (callsIn_wide (n := 12)).1 ?_
 refine callsIn_of_wp_marks Try.func93 rfl trivial ?_ rfl
 refine wpIn_wide.2 ?_
 simp only [Try.ntmps93, List.size_toArray, List.length_cons, List.length_nil, Nat.reduceAdd, Nat.reduceSub, Array.replicate_succ, Array.replicate_zero, List.push_toArray, List.append_toArray, List.nil_append, List.cons_append]
 have HW0 : qab (E.w0.heap.size ≤ w.heap.size) := ⟨HI.out.hb.size⟩
 go_wp2_with fail
 obtain ⟨w8, hw8, bn, bs, bq, bd, bf, bv, bo, hsz, hb⟩ := allocs7 w (.cells (NETC E) 99) (.cells #[.int .i64 s.p, .int .i64 s.h, .int .i64 s.r] 123) (.cells #[.int .i64 slack] 3) (.cells #[.slice E.Ad E.D.length E.cd] 47) (.cells #[SEARCHF E] 121) (.cells #[.int .i64 first] 3) (.cells #[.slice (some ⟨w.heap.size + 1 + 1 + 1 + 1 + 1, 0, none⟩) 1 1] 47)
 rw [hw8]
 clear hw8
 have hbe : Below E.w0.heap.size E.w0 w8 := HI.out.hb.trans (hb.mono HW0.out)
 refine (HREP.out w8 hbe (Kd.qak (Kd.R_reads' HI.out.due).2.2 hb)).mono ?_
 rintro e w9 ⟨rfl, hb9⟩
 have ROW := qab.mk (Kd.R_below (R_one (base := E.w0.heap.size) (ok := fun k => w.heap.size ≤ k ∧ k ≠ w.heap.size + 1 + 1) bv (by have := HW0.out; omega) ⟨by omega, by omega⟩) hb9)
 replace bn := qab.mk (qae bn hb9)
 replace bq := qab.mk (qae bq hb9)
 replace bd := qab.mk (qae bd hb9)
 replace bf := qab.mk (qae bf hb9)
 replace bo := qab.mk (qae bo hb9)
 have hsz9 : w.heap.size + 7 ≤ w9.heap.size := by have := hb9.size; omega
 have HB9 := qab.mk (qad hb hb9)
 clear hb hb9 hbe bs bv hsz
 have hwn : w9.heap.size = w9.heap.size := rfl
 go_wp2_with fail
 refine (wpIn_wide (n := 12)).1 ?_
 have St0 : St93 E A w w.heap.size (w.heap.size + 1 + 1) (w.heap.size + 1 + 1 + 1) (w.heap.size + 1 + 1 + 1 + 1) (w.heap.size + 1 + 1 + 1 + 1 + 1 + 1) w9.heap.size slack ⟨q0, q1, q2⟩ [first] (.slice (some ⟨w.heap.size + 1 + 1 + 1 + 1 + 1, 0, none⟩) 1 1) [] (w9.alloc (.cells #[.int .i64 q0, .int .i64 q1, .int .i64 q2] 123)) := by
  have hb10 := qag (Below.refl w9.heap.size w9) (.cells #[.int .i64 q0, .int .i64 q1, .int .i64 q2] 123)
  have hbw := HB9.out.alloc HB9.out.size (.cells #[.int .i64 q0, .int .i64 q1, .int .i64 q2] 123)
  refine ⟨?_, qae bn.out hb10, qae bq.out hb10, qae bd.out hb10, qae bf.out hb10, qae bo.out hb10, blk_new _ _, Kd.R_below ROW.out hb10, KB.of_below hbw _, ⟨by omega, by omega⟩, by simp⟩
  refine (HI.out.imp (A' := fun k => A k ∨ k = w.heap.size + 1 + 1 + 1 + 1 + 1 + 1 ∨ k = w9.heap.size ∨ some k = (Value.slice (some ⟨w.heap.size + 1 + 1 + 1 + 1 + 1, 0, none⟩) 1 1).ownBlock) (fun k hk => ?_)).step (KB.of_below hbw _)
  have hwe := HW0.out
  rcases hk with hk | hk | hk | hk
  ·
   exact ⟨HI.out.lo k hk, .inl hk⟩
  ·
   exact ⟨by omega, .inr (by omega)⟩
  ·
   exact ⟨by omega, .inr (by omega)⟩
  ·
   have : k = w.heap.size + 1 + 1 + 1 + 1 + 1 := by simpa [Value.ownBlock] using hk
   exact ⟨by omega, .inr (by omega)⟩
 have hne : w.heap.size ≠ w.heap.size + 1 + 1 + 1 + 1 + 1 + 1 ∧ w.heap.size ≠ w9.heap.size ∧ w.heap.size + 1 + 1 ≠ w.heap.size + 1 + 1 + 1 + 1 + 1 + 1 ∧ w.heap.size + 1 + 1 ≠ w9.heap.size ∧ w.heap.size + 1 + 1 + 1 ≠ w.heap.size + 1 + 1 + 1 + 1 + 1 + 1 ∧ w.heap.size + 1 + 1 + 1 ≠ w9.heap.size ∧ w.heap.size + 1 + 1 + 1 + 1 ≠ w.heap.size + 1 + 1 + 1 + 1 + 1 + 1 ∧ w.heap.size + 1 + 1 + 1 + 1 ≠ w9.heap.size ∧ w.heap.size + 1 + 1 + 1 + 1 + 1 + 1 ≠ w9.heap.size := by omega
 clear bn bq bd bf bo ROW HB9 hwn
 have ST0 := qab.mk St0
 have HNE := qab.mk hne
 clear St0 hne
 generalize w9.alloc (.cells #[.int .i64 q0, .int .i64 q1, .int .i64 q2] 123) = W0 at ST0 ⊢
 generalize w9.heap.size = gx at ST0 HNE hsz9 ⊢
 generalize w.heap.size + 1 + 1 + 1 + 1 + 1 + 1 = go at ST0 HNE ⊢
 generalize w.heap.size + 1 + 1 + 1 + 1 = gf at ST0 HNE ⊢
 generalize w.heap.size + 1 + 1 + 1 = gd at ST0 HNE ⊢
 generalize w.heap.size + 1 + 1 = gq at ST0 HNE ⊢
 refine wpIn_loop (LI93 E A w s first slack gq gd gf go gx q0 q1 q2)
  (fun _ W => mu93 gx W) ?h0 ?round
 case h0 =>
  have hnx := HNX.out
  have hc5 := cnt_le s.r
  have hnx2 : cntB q2 + 1 = cntB s.r := hnx.2
  exact ⟨⟨q0, q1, q2⟩, [first], _, 5, [], _, _, _, _, _, _, _, _, _, _, _, _, _, _, _, _, _, _, _, rfl, ⟨ST0.out, by simp, hnx.1, by show cntB q2 < _; omega, by show cntB q2 ≤ _; omega, HSL.out.1, HSL.out.2, rfl, by show 1 + cntB q2 ≤ 5; omega⟩⟩
 case round =>
  rintro a W ⟨n, o, v, k, Ds, z15, z16, z22, z23, z24, z25, z26, z27, z28, z29, z30, z31, z32, t33, t34, t35, t36, t37, t38, rfl, HST⟩
  refine wpIn_wide.2 ?_
  unfold fr93
  have hn0 : 0 ≤ n.r := HST.out.2.2.1.1.1
  have hc2 : W.cell? ⟨gx, 2, none⟩ = some (.int .i64 n.r) := qaa HST.out.1.xx 2
  by_cases hz : n.r = 0
  ·
   have hzb : (n.r != 0) = false := by simp [hz]
   have hco : W.cell? ⟨go, 0, none⟩ = some v := qaa HST.out.1.xo 0
   go_wp2_with fail
   have hst := HST.out
   have hm := HI.out.map.lt
   refine leave93 E (fun k => A k ∨ k = go ∨ k = gx ∨ some k = v.ownBlock) w _ v o (fun k => w.heap.size ≤ k ∧ k ≠ gq) hm HW0.out rfl _ ?_ Ds W hst.2.1 hst.1.marks hst.1.env hst.1.row hst.1.kb
   intro W' he hr hk
   have hout : sameV E.l0 E.l2 E.D E.S slack k n o = o := by
    cases k with
    | zero => rfl
    | succ k => unfold sameV; rw [if_pos hz]
   rw [← hst.2.2.2.2.2.2.2.1, hout]
   refine ⟨v, rfl, Kd.R_mono hr (fun k hk => ⟨by omega, fun ha => by have := hA k ha; omega⟩), he.imp (fun k hk => ⟨HI.out.lo k hk, .inl (.inl hk)⟩), hk⟩
  ·
   have hzb : (n.r != 0) = true := by simp [hz]
   go_wp2_with (go_at_call 76; refine (loops_calls n.r W).mono ?_; rintro e W1 ⟨BB, rfl, hBB, hge, hb⟩)
   refine (wpIn_wide (n := 12)).1 ?_
   have hst1 := HST.out.1.below hb
   have hlt1 : BB < W1.heap.size := blk_lt hBB
   have hDs1 : ∀ D ∈ Ds, D < W1.heap.size := fun D hD => blk_lt (hst1.marks D hD).1
   have hwW1 : w.heap.size ≤ W1.heap.size := hst1.kb.size
   have hmw := HI.out.map.lt
   have hAt := HST.out.2.2.1
   have hcs := HST.out.2.2.2.1
   have hkW := HST.out
   have HST1 := qab.mk hst1
   refine wpIn_rangeFunc_ownG rfl (by omega) (gf := 97) (lb := #[.pointer (some ⟨BB, 0, none⟩)]) rfl trivial (enters_of Try.func97 (by kernel_rfl) rfl) (loops_stops _ (by omega) n.r hn0 BB W1 hBB) (fun h k => KeptAt.trans h k) (keptAt_put hlt1) (Below.refl _ _) (fun _ => rfl)
    (fun (pre : List (LoopOf n.r)) W => St93 E A w w.heap.size gq gd gf go gx slack n o v Ds W ∧ BB < W.heap.size ∧ ∀ i ∈ pre.map (fun y : LoopOf n.r => y.1), goodV E.l0 E.l2 E.D E.S slack n i = false)
    (IX93 E A w gq gd gf go gx slack n o Ds)
    (fun s A B row hs hg hr => ⟨hs.1.own hwW1 HW0.out hmw hDs1 hg hr, Nat.lt_of_lt_of_le hs.2.1 hg.size, hs.2.2⟩)
    (fun c s A B row hs hg hr => by
     obtain ⟨p0, x, v1, e1, e2, e3, e4, e5⟩ := hs
     exact ⟨p0, x, v1, e1, e2, e3, e4, e5.own hwW1 HW0.out hmw hDs1 hg hr⟩)
    ⟨hst1, hlt1, by simp⟩
    (fun x => { tmps := #[.agg (NETC E), .agg #[.int .i64 s.p, .int .i64 s.h, .int .i64 s.r], .int .i64 first, .int .i64 slack, .slice E.Ad E.D.length E.cd, SEARCHF E, .pointer (some ⟨w.heap.size, 0, none⟩), .pointer (some ⟨w.heap.size + 1, 0, none⟩), undef, .pointer (some ⟨gq, 0, none⟩), .pointer (some ⟨gd, 0, none⟩), .pointer (some ⟨gf, 0, none⟩), .slice none 0 0, .pointer (some ⟨go, 0, none⟩), .pointer (some ⟨gx, 0, none⟩), z15, z16, .int .i64 x.1, undef, undef, undef, undef, z22, z23, z24, z25, z26, z27, z28, z29, z30, z31, z32, .pointer (some ⟨gx, 2, none⟩), .int .i64 n.r, .bool true, .pointer (some ⟨gx, 2, none⟩), .int .i64 n.r, .func (.func 97) #[] #[.pointer (some ⟨BB, 0, none⟩)], .int .i64 x.1, undef, undef, undef, undef, undef, undef, undef, undef, undef, undef, undef, undef, undef, undef, undef, undef, undef, undef, undef, undef, undef, undef, undef, undef, undef, undef, undef, undef, undef, undef, undef, undef, undef], defers := [] }) ?assign ?body ?done ?stop
   case assign =>
    intro l x W K hK
    gi_wp2
    exact hK
   case body =>
    rintro l pre ⟨x, hxm⟩ W2 ⟨hst, hBB2, hng⟩ _
    have hx05' : 0 ≤ x ∧ x < 5 := by
     obtain ⟨xk, hxk, hxk5, _⟩ := (mem_loopsOf n.r 5 x).1 hxm
     omega
    have hx5 := hAt.2.2.2 x hxm
    have hrep2 : Calls Try.prog 92 #[.agg (NETC E), .agg #[.int .i64 n.p, .int .i64 n.h, .int .i64 n.r], .int .i64 x, .slice E.Ad E.D.length E.cd] W2 fun e w' =>
      e = .returned (.tuple #[spV (repV E.l0 E.l2 E.D n x).1, .int .i64 (repV E.l0 E.l2 E.D n x).2.1, .bool (repV E.l0 E.l2 E.D n x).2.2]) ∧ Below W2.heap.size W2 w' :=
     repaired_calls _ _ _ _ _ _ _ _ n x _ _ E.D W2 (Kd.qak hE.r0 hst.env.hb) (Kd.qak hE.r2 hst.env.hb) (Kd.R_reads' hst.env.due).2.2 hAt.2.1 (by have := hE.h2; have := hAt.2.2.1; omega) (by omega) hx5 (by rw [hE.hrow n.p hAt.2.1 hAt.2.2.1]; omega) (by rw [hE.hD]; omega) (by omega)
    have hnx3 : (repV E.l0 E.l2 E.D n x).2.2 = true → E.At (repV E.l0 E.l2 E.D n x).1 ∧ cntB (repV E.l0 E.l2 E.D n x).1.r + 1 = cntB n.r := fun h => hAt.next hxm h
    have hgood : goodV E.l0 E.l2 E.D E.S slack n x = ((repV E.l0 E.l2 E.D n x).2.2 && decide (slack ≤ (repV E.l0 E.l2 E.D n x).2.1) && (E.S (repV E.l0 E.l2 E.D n x).1).2.2 && decide (slack ≤ (E.S (repV E.l0 E.l2 E.D n x).1).2.1)) := rfl
    generalize hq2 : repV E.l0 E.l2 E.D n x = q at hrep2 hnx3 hgood
    obtain ⟨⟨y0, y1, y2⟩, ow2, can2⟩ := q
    simp only [spV_eq] at hrep2
    try dsimp only at hrep2 hnx3 hgood
    have HQ2 := qab.mk hq2
    have HST2 := qab.mk hst
    have NO : ∀ (a : Act) (W' : World), St93 E A w w.heap.size gq gd gf go gx slack n o v Ds W' → KB (fun k => k = E.m) W2 W' → goodV E.l0 E.l2 E.D E.S slack n x = false →
      ownPostG W1.heap.size (KeptAt BB) (fun (pre : List (LoopOf n.r)) W => St93 E A w w.heap.size gq gd gf go gx slack n o v Ds W ∧ BB < W.heap.size ∧ ∀ i ∈ pre.map (fun y : LoopOf n.r => y.1), goodV E.l0 E.l2 E.D E.S slack n i = false)
       (IX93 E A w gq gd gf go gx slack n o Ds)
       (pre ++ [(⟨x, hxm⟩ : LoopOf n.r)]) W2 .normal a W' := by
     intro a W' hs hk hg
     refine ⟨hk.from (fun k e => by omega), hk.block BB hBB2 (by have := hst1.kb.size; have := HST.out.1.kb.size; omega), hs, Nat.lt_of_lt_of_le hBB2 hk.size, ?_⟩
     intro i hi
     rw [List.map_append, List.mem_append] at hi
     rcases hi with hi | hi
     ·
      exact hng i hi
     ·
      simp only [List.map_cons, List.map_nil, List.mem_singleton] at hi
      rw [hi]
      exact hg
    have HNO := qab.mk NO
    have HNX3 := qab.mk hnx3
    have HG := qab.mk hgood
    have HNG := qab.mk hng
    have HLEN : qab (o.length ≤ 5) := ⟨by have := hkW.2.2.2.2.2.2.2.2; omega⟩
    have hca0 : W2.cell? ⟨w.heap.size, 0, none⟩ = some (.slice E.A0 E.l0.length E.c0) := qaa hst.xn 0
    have hca1 : W2.cell? ⟨w.heap.size, 1, none⟩ = some (.slice E.A1 E.l1.length E.c1) := qaa hst.xn 1
    have hca2 : W2.cell? ⟨w.heap.size, 2, none⟩ = some (.slice E.A2 E.l2.length E.c2) := qaa hst.xn 2
    have hca3 : W2.cell? ⟨w.heap.size, 3, none⟩ = some (.int .i64 E.wp) := qaa hst.xn 3
    have hcb0 : W2.cell? ⟨gx, 0, none⟩ = some (.int .i64 n.p) := qaa hst.xx 0
    have hcb1 : W2.cell? ⟨gx, 1, none⟩ = some (.int .i64 n.h) := qaa hst.xx 1
    have hcb2 : W2.cell? ⟨gx, 2, none⟩ = some (.int .i64 n.r) := qaa hst.xx 2
    have hcd0 : W2.cell? ⟨gd, 0, none⟩ = some (.slice E.Ad E.D.length E.cd) := qaa hst.xd 0
    clear NO hnx3 hgood hng hst hq2 hx5 hAt hkW HST hst1 hc2 hz hzb
    gi_wp2
    refine ⟨trivial, (CallsIn.inRound l (callsIn_wide.2 hrep2)).mono ?_⟩
    rintro e W3 ⟨rfl, hb3⟩
    clear hrep2 hca0 hca1 hca2 hca3 hcb0 hcb1 hcb2 hcd0
    have hb4 := qag hb3 (.cells #[.int .i64 y0, .int .i64 y1, .int .i64 y2] 123)
    have st4 := HST2.out.below hb4
    have BY := blk_new W3 (.cells #[.int .i64 y0, .int .i64 y1, .int .i64 y2] 123)
    have hcq4 : (W3.alloc (.cells #[.int .i64 y0, .int .i64 y1, .int .i64 y2] 123)).cell? ⟨gq, 0, none⟩ = some (.int .i64 slack) := qaa st4.xq 0
    have hcf4 : (W3.alloc (.cells #[.int .i64 y0, .int .i64 y1, .int .i64 y2] 123)).cell? ⟨gf, 0, none⟩ = some (SEARCHF E) := qaa st4.xf 0
    have ST4 := qab.mk st4
    have HB4 := qab.mk hb4
    have HBY := qab.mk BY
    clear st4 hb4 BY hb3
    cases can2 with
    | false =>
     gi_wp2
     exact HNO.out _ _ ST4.out (KB.of_below HB4.out _) (by rw [HG.out]; rfl)
    | true =>
     by_cases hos : ow2 < slack
     ·
      gi_wp2
      exact HNO.out _ _ ST4.out (KB.of_below HB4.out _) (by rw [HG.out]; simp; omega)
     ·
      gi_wp2
      have hnx4 := HNX3.out (by simp)
      have hsr := HIH.out ⟨y0, y1, y2⟩ hnx4.1 (by have := hnx4.2; show cntB y2 < _; omega) (fun k => A k ∨ k = go ∨ k = gx ∨ some k = v.ownBlock) _ ST4.out.env (ST4.out.lt hA)
      simp only [spV_eq] at hsr
      refine ⟨trivial, (CallsIn.inRound l (callsIn_wide.2 hsr)).mono ?_⟩
      rintro e W5 ⟨v2, rfl, hrow2, henv, hkb⟩
      obtain ⟨vA, vn, vc, rfl⟩ := R_shape hrow2
      clear hrow2
      have st5 := ST4.out.after henv hkb
      have k5 := (KB.of_below HB4.out (fun k => k = E.m)).trans hkb (fun k e => .inl e)
      have by5 := hkb.blk HBY.out (fun e => ST4.out.env.map.noCells HBY.out e)
      generalize E.S ⟨y0, y1, y2⟩ = S2 at HG ⊢
      obtain ⟨So, Ss, Sr⟩ := S2
      try dsimp only at HG
      clear hsr henv hkb hcf4 hcq4
      have hb6 := qag (Below.refl W5.heap.size W5) (.cells #[.slice vA vn vc, .int .i64 Ss, .bool Sr] 97)
      have st6 := st5.below hb6
      have k6 := k5.then_below hb6
      have by6 := qae by5 hb6
      have bz6 := blk_new W5 (.cells #[.slice vA vn vc, .int .i64 Ss, .bool Sr] 97)
      have hcq6 : (W5.alloc (.cells #[.slice vA vn vc, .int .i64 Ss, .bool Sr] 97)).cell? ⟨gq, 0, none⟩ = some (.int .i64 slack) := qaa st6.xq 0
      have ST6 := qab.mk st6
      have K6 := qab.mk k6
      have BY6 := qab.mk by6
      clear st5 st6 k5 k6 by5 by6 bz6 hb6 HBY ST4 HB4
      cases Sr with
      | false =>
       gi_wp2
       exact HNO.out _ _ ST6.out K6.out (by rw [HG.out]; simp)
      | true =>
       by_cases hos2 : slack ≤ Ss
       ·
        gi_wp2
        have st6 := ST6.out
        have k6 := K6.out
        have by6 := BY6.out
        generalize W5.alloc (.cells #[.slice vA vn vc, .int .i64 Ss, .bool true] 97) = W6 at st6 k6 by6 ⊢
        generalize W3.heap.size = gy at by6 ⊢
        clear ST6 K6 BY6 hcq6
        obtain ⟨oA, on, oc, rfl⟩ := R_shape st6.row
        have hsz6 : ∀ k, W6.heap.size ≤ k → w.heap.size ≤ k ∧ k ≠ gq := fun k hk => ⟨Nat.le_trans st6.kb.size hk, fun e => by have := blk_lt st6.xq; omega⟩
        obtain ⟨v1, w1, hrun, hR1, hg1, hat1⟩ := int_append_run W6.drew (.slice oA on oc) o x E.w0.heap.size _ (Kd.R_drew st6.row) (Nat.le_trans HW0.out st6.kb.size) (by have := HLEN.out; omega) hsz6
        obtain ⟨pA, pn, pc, rfl⟩ := R_shape hR1
        have hg1' : W6.grownBy w1 (Value.slice oA on oc).ownBlock := ⟨hg1.os, hg1.tape, hg1.output, hg1.size, hg1.block⟩
        have hrun' : (Builtin.append_ #[47, 47] 47 #[.slice oA on oc, .slice (some ⟨W6.heap.size, 0, none⟩) 1 1]).run Try.prog (W6.drew.alloc (.cells #[.int .i64 x] 3)) = .ok (.slice pA pn pc) w1 := hrun
        have push := st6.push (n' := ⟨y0, y1, y2⟩) HW0.out HNE.out hR1 hg1' hat1
        dsimp only at push
        have bo6 := st6.xo
        have bx6 := st6.xx
        have bo1 := blk_grown bo6 hg1' (Kd.R_ne st6.row bo6 (by decide))
        have bx1 := blk_grown bx6 hg1' (Kd.R_ne st6.row bx6 (by decide))
        have by1 := blk_grown by6 hg1' (Kd.R_ne st6.row by6 (by decide))
        have nex : gx ≠ go := HNE.out.2.2.2.2.2.2.2.2.symm
        have ney : gy ≠ go := blk_ne by6 bo6 (by decide)
        have hKF : KeepsFrom W1.heap.size W2 ((((w1.setCell ⟨go, 0, none⟩ (.slice pA pn pc)).setCell ⟨gx, 0, none⟩ (.int .i64 y0)).setCell ⟨gx, 1, none⟩ (.int .i64 y1)).setCell ⟨gx, 2, none⟩ (.int .i64 y2)) := by
         refine ⟨by simpa using Nat.le_trans k6.size hg1'.size, fun k ob hB hk hc => ?_⟩
         have e6 : W6.heap[k]? = some ob := k6.blk hk (by omega)
         have e1 : w1.heap[k]? = some ob := (hg1'.block k (blk_lt e6) (fun e => by
          obtain ⟨cells, hcc⟩ := Kd.R_typed st6.row k e.symm
          rw [e6] at hcc
          injection hcc with hcc
          subst hcc
          cases hc)).trans e6
         have ng : k ≠ go := fun e => by
          subst e
          rw [bo1] at e1
          injection e1 with e1
          subst e1
          cases hc
         have nx : k ≠ gx := fun e => by
          subst e
          rw [bx1] at e1
          injection e1 with e1
          subst e1
          cases hc
         exact (Below.heap_setCell _ ⟨gx, 2, none⟩ _ k nx).trans ((Below.heap_setCell _ ⟨gx, 1, none⟩ _ k nx).trans ((Below.heap_setCell _ ⟨gx, 0, none⟩ _ k nx).trans ((Below.heap_setCell _ ⟨go, 0, none⟩ _ k ng).trans e1)))
        have hIx : IX93 E A w gq gd gf go gx slack n o Ds (.exit 2) (pre ++ [(⟨x, hxm⟩ : LoopOf n.r)]) ((((w1.setCell ⟨go, 0, none⟩ (.slice pA pn pc)).setCell ⟨gx, 0, none⟩ (.int .i64 y0)).setCell ⟨gx, 1, none⟩ (.int .i64 y1)).setCell ⟨gx, 2, none⟩ (.int .i64 y2)) := by
         refine ⟨pre, ⟨x, hxm⟩, .slice pA pn pc, rfl, rfl, HNG.out, ?_, ?_⟩
         ·
          rw [HG.out]
          simp
          omega
         ·
          show St93 E A w w.heap.size gq gd gf go gx slack (repV E.l0 E.l2 E.D n x).1 (o ++ [x]) _ Ds _
          rw [HQ2.out]
          exact push
        have HKF := qab.mk hKF
        have HIX := qab.mk hIx
        clear hKF hIx push HNO HNG HG HQ2 k6 hR1 hg1 hat1 hg1' hsz6 hnx4
        refine region10 (gx := gx) (go := go) (gy := gy) (x := 0) (oA := oA) (pA := pA) (on := on) (oc := oc) (pn := pn) (pc := pc) (xi := x) (y0 := y0) (y1 := y1) (y2 := y2) (n0 := n.p) (n1 := n.h) (n2 := n.r) rfl rfl rfl rfl rfl rfl rfl rfl (by kernel_rfl) ⟨rfl, rfl, rfl, rfl, rfl, fun h => (by cases h), fun h => (by cases h), fun h => (by cases h), fun h => (by cases h), fun h => (by cases h)⟩ bo6 by6 hrun' bo1 by1 bx1 nex ney (fun a' => ?_)
        clear bo6 by6 hrun' bo1 by1 bx1 bx6 hrun
        gi_wp2
        exact ⟨HKF.out, HIX.out⟩
       ·
        gi_wp2
        exact HNO.out _ _ ST6.out K6.out (by rw [HG.out]; simp; omega)
   case done =>
    rintro D2 xs W2 hD2 hSx ⟨hst, _, hng⟩ hK
    exfalso
    rw [hSx] at hng
    obtain ⟨i, hi⟩ := good_some E.l0 E.l1 E.l2 E.D n hAt.1 hz slack hkW.2.2.2.2.2.1 hkW.2.2.2.2.2.2.1
    have h1 := List.find?_some hi
    have h2 := hng i (List.mem_of_find?_eq_some hi)
    have h3 : goodV E.l0 E.l2 E.D E.S slack n i = true := h1
    rw [h3] at h2
    cases h2
   case stop =>
    rintro D2 c pre W2 hD2 hSp ⟨pre0, x, v1, rfl, rfl, hng, hgx, hst⟩ hK
    have hpre : (pre0 ++ [x]).map (·.1) <+: qaq n.r 5 := hSp
    have hfind := find_at (goodV E.l0 E.l2 E.D E.S slack n) (qaq n.r 5) (pre0.map (·.1)) x.1 (by simpa using hpre) hng hgx
    have hgx2 := hgx
    unfold goodV at hgx2
    simp only [Bool.and_eq_true, decide_eq_true_eq] at hgx2
    have hnx2 := hAt.next x.2 hgx2.1.1.1
    have hc0 : cntB n.r ≠ 0 := fun e => hz ((cnt_zero n.r hAt.1.1 hAt.1.2).1 e)
    obtain ⟨k', rfl⟩ : ∃ k', k = k' + 1 := ⟨k - 1, by have := hkW.2.2.2.2.1; omega⟩
    have hsame : sameV E.l0 E.l2 E.D E.S slack (k' + 1) n o = sameV E.l0 E.l2 E.D E.S slack k' (repV E.l0 E.l2 E.D n x.1).1 (o ++ [x.1]) := by
     conv => lhs; unfold sameV
     rw [if_neg hz, hfind]
    have hxx : W2.cell? ⟨gx, 2, none⟩ = some (.int .i64 (repV E.l0 E.l2 E.D n x.1).1.r) := qaa hst.xx 2
    have hDnew : D2 ∉ Ds := fun hD => by have := hDs1 D2 hD; omega
    have hlw := hkW
    have hLI : ∀ (t33 t34 t35 t36 t37 t38 : Value), LI93 E A w s first slack gq gd gf go gx q0 q1 q2 { tmps := fr93 E s first slack w.heap.size (w.heap.size + 1) gq gd gf go gx z15 z16 z22 z23 z24 z25 z26 z27 z28 z29 z30 z31 z32 t33 t34 t35 t36 t37 t38, defers := { target := .collected D2, args := #[] } :: Ds.map fun D => { target := .collected D, args := #[] } } W2 := by
     intro t33 t34 t35 t36 t37 t38
     refine ⟨_, o ++ [x.1], v1, k', D2 :: Ds, z15, z16, z22, z23, z24, z25, z26, z27, z28, z29, z30, z31, z32, t33, t34, t35, t36, t37, t38, rfl, ⟨⟨hst.env, hst.xn, hst.xq, hst.xd, hst.xf, hst.xo, hst.xx, hst.row, hst.kb, hst.lo, ?_⟩, ?_, hnx2.1, by omega, ?_, hgx2.1.2, hgx2.2, ?_, ?_⟩⟩
     ·
      intro D hD
      rcases List.mem_cons.1 hD with rfl | hD
      ·
       exact ⟨hK, by omega⟩
      ·
       exact hst.marks D hD
     ·
      exact List.nodup_cons.2 ⟨hDnew, hlw.2.1⟩
     ·
      have := hlw.2.2.2.2.1
      omega
     ·
      rw [← hsame]
      exact hlw.2.2.2.2.2.2.2.1
     ·
      have := hlw.2.2.2.2.2.2.2.2
      simp
      omega
    have HLI := qab.mk hLI
    have HMU : qab (mu93 gx W2 < mu93 gx W) := ⟨by rw [mu93_eq hxx, mu93_eq hc2]; omega⟩
    clear hLI hng hgx2 hgx hkW hlw hfind hsame hDs1
    gi_wp2
    exact ⟨HLI.out _ _ _ _ _ _, HMU.out⟩
end Go.Proofs.Ytipphcjgdebecaa.PA
