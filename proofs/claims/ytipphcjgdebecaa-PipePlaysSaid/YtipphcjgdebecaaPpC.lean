/- Parts of a proof about the pipe seat's laws: what the functions of the program answer. No condition of its own. -/
import Derived.Test.YtipphcjgdebecaaPpA
import Derived.Test.YtipphcjgdebecaaPpB
namespace Go.Proofs.Ytipphcjgdebecaa.PA
open Go.RowKit Go.Proofs.YtipphcjgdebecaaW.PrintWords Go.Proofs.YtipphcjgdebecaaW.PrintLast Go.Proofs.YtipphcjgdebecaaW.PrintMore
attribute [local go_sem] max2_int min2_int max_two min_two max_three min_three max_four min_four
set_option linter.unusedVariables false
set_option linter.unusedSimpArgs false
attribute [local go_sem] Oper.semAt_some
def bAt (L : Array Bool) (i : Nat) : Bool := L.getD i false
def valid10 (L : Array Bool) : Bool := L.size == 7 && (!bAt L 2 || bAt L 1) && (!bAt L 3 || (bAt L 0 && bAt L 2)) && (!bAt L 5 || bAt L 3) && (!bAt L 6 || (bAt L 5 && bAt L 4))
def check10 (ops : Array Oper) (L : Array Bool) : Bool :=
 !valid10 L || ((Region.ready .any ops L).all (fun i => decide (i < 7) && !bAt L i && valid10 (L.setIfInBounds i true)) && (!(Region.ready .any ops L).isEmpty || L.all id) && (!L.all id || (Region.ready .any ops L).isEmpty))
def all10 : List (Array Bool) := (List.range 128).map fun k => #[k.testBit 0, k.testBit 1, k.testBit 2, k.testBit 3, k.testBit 4, k.testBit 5, k.testBit 6]
theorem mem_all10 (L : Array Bool) (h : L.size = 7) : L ∈ all10 := by
 obtain ⟨l⟩ := L
 match l, h with
 | [a, b, c, d, e, f, g], _ => cases a <;> cases b <;> cases c <;> cases d <;> cases e <;> cases f <;> cases g <;> decide
theorem opIn_value {n : Nat} {P : Program} {ops : Array Oper} {Q : Exit → Act → World → Prop} {i : Nat} {K : Act → World → Prop} {a : Act} {w w1 : World} {o : Oper} {v : Value} {l : Nat} (hi : ops[i]? = some o) (hg : o.guard = none)
  (hd : ∀ c, o.op ≠ .defer c) (hrun : (execOp a.eval o).run P w = .ok (.value v) w1) (h : K (a.put o.dst v) w1) : wpOpIn (Fence.wide.inRound l) n P ops Q i K a w := by
 refine wpOpIn_step hi fun K' hK => ?_
 have hw : Region.wanted o (yielded ops a.tmps) = true := by simp [Region.wanted, hg]
 rw [if_pos hw]
 unfold Oper.wpIn
 refine ⟨fun f hf => trivial, ?_⟩
 rw [Oper.semAt_eq _ _ _ hd, hrun]
 exact hK _ _ h
theorem opIn_skip {n : Nat} {P : Program} {ops : Array Oper} {Q : Exit → Act → World → Prop} {i : Nat} {K : Act → World → Prop} {a : Act} {w w1 : World} {o : Oper} {l : Nat} (hi : ops[i]? = some o) (hg : o.guard = none)
  (hd : ∀ c, o.op ≠ .defer c) (hrun : (execOp a.eval o).run P w = .ok .skip w1) (h : K (a.put o.dst undef) w1) : wpOpIn (Fence.wide.inRound l) n P ops Q i K a w := by
 refine wpOpIn_step hi fun K' hK => ?_
 have hw : Region.wanted o (yielded ops a.tmps) = true := by simp [Region.wanted, hg]
 rw [if_pos hw]
 unfold Oper.wpIn
 refine ⟨fun f hf => trivial, ?_⟩
 rw [Oper.semAt_eq _ _ _ hd, hrun]
 exact hK _ _ h
structure St10 (L : Array Bool) (a : Act) (gx go gy x : Nat) (vo v1 vs vy : Value) (xi : Int) : Prop where
 size : a.tmps.size = 73
 s13 : a.tmps.getD 13 undef = .pointer (some ⟨go, 0, none⟩)
 s14 : a.tmps.getD 14 undef = .pointer (some ⟨gx, 0, none⟩)
 s17 : a.tmps.getD 17 undef = .int .i64 xi
 s18 : a.tmps.getD 18 undef = .pointer (some ⟨gy, 0, none⟩)
 d0 : bAt L 0 = true → a.tmps.getD 67 undef = vo
 d1 : bAt L 1 = true → a.tmps.getD 68 undef = .int .i64 xi
 d2 : bAt L 2 = true → a.tmps.getD 69 undef = vs
 d3 : bAt L 3 = true → a.tmps.getD 70 undef = v1
 d4 : bAt L 4 = true → a.tmps.getD 71 undef = vy
theorem bAt_set {L : Array Bool} {i j : Nat} (hi : i < L.size) : bAt (L.setIfInBounds i true) j = (if i = j then true else bAt L j) := by
 unfold bAt
 by_cases h : i = j
 ·
  subst h
  simp [hi]
 ·
  simp [h, Array.getD_eq_getD_getElem?, Array.getElem?_setIfInBounds]
theorem getD_put {a : Act} {k j : Nat} {v : Value} (hk : k < a.tmps.size) : (a.put (some k) v).tmps.getD j undef = (if k = j then v else a.tmps.getD j undef) := by
 show (a.tmps.setIfInBounds k v).getD j undef = _
 by_cases h : k = j
 ·
  subst h
  simp [hk]
 ·
  simp [h, Array.getD_eq_getD_getElem?, Array.getElem?_setIfInBounds]
theorem St10.put {L : Array Bool} {a : Act} {gx go gy x : Nat} {vo v1 vs vy v : Value} {xi : Int} (h : St10 L a gx go gy x vo v1 vs vy xi) (i k : Nat) (hL : i < L.size) (hk : k < 73) (hki : k ≠ 13 ∧ k ≠ 14 ∧ k ≠ 17 ∧ k ≠ 18)
  (h0 : k = 67 → v = vo) (h1 : k = 68 → v = .int .i64 xi) (h2 : k = 69 → v = vs) (h3 : k = 70 → v = v1) (h4 : k = 71 → v = vy) (hi : i = k - 67) (hk2 : 67 ≤ k) : St10 (L.setIfInBounds i true) (a.put (some k) v) gx go gy x vo v1 vs vy xi := by
 have hks : k < a.tmps.size := by rw [h.size]; exact hk
 have key : ∀ (j kk : Nat) (u : Value), kk = j + 67 → (k = kk → v = u) → (bAt L j = true → a.tmps.getD kk undef = u) → bAt (L.setIfInBounds i true) j = true → (a.put (some k) v).tmps.getD kk undef = u := by
  intro j kk u hkk hvu hd hb
  rw [getD_put hks]
  by_cases e : k = kk
  ·
   rw [if_pos e]; exact hvu e
  ·
   rw [if_neg e]
   rw [bAt_set hL, if_neg (by omega)] at hb
   exact hd hb
 have far : ∀ (j : Nat) (u : Value), k ≠ j → a.tmps.getD j undef = u → (a.put (some k) v).tmps.getD j undef = u := fun j u hj hu => by rw [getD_put hks, if_neg hj]; exact hu
 exact ⟨by show (a.tmps.setIfInBounds k v).size = 73; simp [h.size], far _ _ hki.1 h.s13, far _ _ hki.2.1 h.s14, far _ _ hki.2.2.1 h.s17, far _ _ hki.2.2.2 h.s18, key 0 67 vo rfl h0 h.d0, key 1 68 _ rfl h1 h.d1, key 2 69 vs rfl h2 h.d2, key 3 70 v1 rfl h3 h.d3, key 4 71 vy rfl h4 h.d4⟩
theorem St10.skip {L : Array Bool} {a : Act} {gx go gy x : Nat} {vo v1 vs vy : Value} {xi : Int} (h : St10 L a gx go gy x vo v1 vs vy xi) (i : Nat) (hL : i < L.size) (hi : 5 ≤ i) : St10 (L.setIfInBounds i true) a gx go gy x vo v1 vs vy xi :=
 ⟨h.size, h.s13, h.s14, h.s17, h.s18, fun hb => h.d0 (by rwa [bAt_set hL, if_neg (by omega)] at hb), fun hb => h.d1 (by rwa [bAt_set hL, if_neg (by omega)] at hb), fun hb => h.d2 (by rwa [bAt_set hL, if_neg (by omega)] at hb), fun hb => h.d3 (by rwa [bAt_set hL, if_neg (by omega)] at hb), fun hb => h.d4 (by rwa [bAt_set hL, if_neg (by omega)] at hb)⟩
def wd10 (w0 w1 w2 w3 w4 : World) (L : Array Bool) : World := if bAt L 6 = true then w4 else if bAt L 5 = true then w3 else if bAt L 3 = true then w2 else if bAt L 2 = true then w1 else w0
def cnt10 (L : Array Bool) : Nat := (bAt L 0).toNat + (bAt L 1).toNat + (bAt L 2).toNat + (bAt L 3).toNat + (bAt L 4).toNat + (bAt L 5).toNat + (bAt L 6).toNat
theorem valid_size {L : Array Bool} (h : valid10 L = true) : L.size = 7 := by
 unfold valid10 at h
 simp only [Bool.and_eq_true, beq_iff_eq] at h
 exact h.1.1.1.1
theorem valid_imp {L : Array Bool} (h : valid10 L = true) : (bAt L 2 = true → bAt L 1 = true) ∧ (bAt L 3 = true → bAt L 0 = true ∧ bAt L 2 = true) ∧ (bAt L 5 = true → bAt L 3 = true) ∧ (bAt L 6 = true → bAt L 5 = true ∧ bAt L 4 = true) := by
 unfold valid10 at h
 simp only [Bool.and_eq_true, Bool.or_eq_true, Bool.not_eq_true'] at h
 obtain ⟨⟨⟨⟨_, a⟩, b⟩, c⟩, d⟩ := h
 refine ⟨fun e => ?_, fun e => ?_, fun e => ?_, fun e => ?_⟩
 ·
  rcases a with a | a
  ·
   rw [e] at a; cases a
  ·
   exact a
 ·
  rcases b with b | b
  ·
   rw [e] at b; cases b
  ·
   exact b
 ·
  rcases c with c | c
  ·
   rw [e] at c; cases c
  ·
   exact c
 ·
  rcases d with d | d
  ·
   rw [e] at d; cases d
  ·
   exact d
theorem cnt_set {L : Array Bool} (hL : L.size = 7) {i : Nat} (hi : i < 7) (hb : bAt L i = false) : cnt10 (L.setIfInBounds i true) = cnt10 L + 1 := by
 unfold cnt10
 have B := fun j => bAt_set (L := L) (i := i) (j := j) (by omega)
 simp only [B]
 match i, hi with
 | 0, _ => simp [hb]; omega
 | 1, _ => simp [hb]; omega
 | 2, _ => simp [hb]; omega
 | 3, _ => simp [hb]; omega
 | 4, _ => simp [hb]; omega
 | 5, _ => simp [hb]; omega
 | 6, _ => simp [hb]
theorem cnt_all {L : Array Bool} (hL : L.size = 7) (h : cnt10 L = 7) : L.all id = true := by
 obtain ⟨l⟩ := L
 match l, hL with
 | [a, b, c, d, e, f, g], _ => cases a <;> cases b <;> cases c <;> cases d <;> cases e <;> cases f <;> cases g <;> simp [cnt10, bAt] at h ⊢
theorem check_done {ops : Array Oper} {L : Array Bool} (h : check10 ops L = true) (hv : valid10 L = true) (ha : L.all id = true) : Region.ready .any ops L = [] := by
 unfold check10 at h
 rw [hv, ha] at h
 simp at h
 exact h.2
theorem check_all {ops : Array Oper} {L : Array Bool} (h : check10 ops L = true) (hv : valid10 L = true) (hr : Region.ready .any ops L = []) : L.all id = true := by
 unfold check10 at h
 rw [hv, hr] at h
 simp at h
 simpa using h
theorem check_mem {ops : Array Oper} {L : Array Bool} (h : check10 ops L = true) (hv : valid10 L = true) {i : Nat} (hi : i ∈ Region.ready .any ops L) : i < 7 ∧ bAt L i = false ∧ valid10 (L.setIfInBounds i true) = true := by
 unfold check10 at h
 rw [hv] at h
 simp only [Bool.not_true, Bool.false_or, Bool.and_eq_true, List.all_eq_true] at h
 have := h.1.1 i hi
 simp only [Bool.and_eq_true, decide_eq_true_eq, Bool.not_eq_true'] at this
 exact ⟨this.1.1, this.1.2, this.2⟩
theorem all_bit {L : Array Bool} (h : L.all id = true) (hs : 6 < L.size) : bAt L 6 = true := by
 rw [Array.all_eq_true] at h
 have := h 6 hs
 simpa [bAt, hs] using this
theorem wd_all {w0 w1 w2 w3 w4 : World} {L : Array Bool} (h : L.all id = true) (hs : 6 < L.size) : wd10 w0 w1 w2 w3 w4 L = w4 := by
 unfold wd10
 rw [all_bit h hs, if_pos rfl]
theorem wd_set {w0 w1 w2 w3 w4 : World} {L : Array Bool} {i : Nat} (hi : i < L.size) (hn : i = 0 ∨ i = 1 ∨ i = 4) : wd10 w0 w1 w2 w3 w4 (L.setIfInBounds i true) = wd10 w0 w1 w2 w3 w4 L := by
 have e2 : bAt (L.setIfInBounds i true) 2 = bAt L 2 := by rw [bAt_set hi, if_neg (by omega)]
 have e3 : bAt (L.setIfInBounds i true) 3 = bAt L 3 := by rw [bAt_set hi, if_neg (by omega)]
 have e5 : bAt (L.setIfInBounds i true) 5 = bAt L 5 := by rw [bAt_set hi, if_neg (by omega)]
 have e6 : bAt (L.setIfInBounds i true) 6 = bAt L 6 := by rw [bAt_set hi, if_neg (by omega)]
 unfold wd10
 rw [e2, e3, e5, e6]
set_option maxRecDepth 100000 in
set_option maxHeartbeats 2000000 in
theorem region10 {n l : Nat} {Q : Exit → Act → World → Prop} {a : Act} {W : World} {ops : Array Oper} {id : Nat} {t0 t1 t2 t4 t5 t6 : TypeId} {p0 p1 p2 p3 p4 p5 p6 : String} {f0 f1 f2 f3 f4 f5 f6 : Array Edge}
  (h0 : ops[0]? = some { dst := some 67, op := .load 47 (.tmp 13), type := t0, pos := p0, after := f0, guard := none })
  (h1 : ops[1]? = some { dst := some 68, op := .move (.tmp 17), type := t1, pos := p1, after := f1, guard := none })
  (h2 : ops[2]? = some { dst := some 69, op := .buildSlice 47 1 #[(0, .tmp 68)], type := t2, pos := p2, after := f2, guard := none })
  (h3 : ops[3]? = some { dst := some 70, op := .call { callee := .builtin .append, args := #[.tmp 67, .tmp 69], argTypes := #[47, 47] }, type := 47, pos := p3, after := f3, guard := none })
  (h4 : ops[4]? = some { dst := some 71, op := .load 123 (.tmp 18), type := t4, pos := p4, after := f4, guard := none })
  (h5 : ops[5]? = some { dst := none, op := .store 47 (.tmp 13) (.tmp 70), type := t5, pos := p5, after := f5, guard := none })
  (h6 : ops[6]? = some { dst := none, op := .store 123 (.tmp 14) (.tmp 71), type := t6, pos := p6, after := f6, guard := none })
  (hsz : ops.size = 7) (hV : all10.all (check10 ops) = true)
  {gx go gy x : Nat} {oA pA : Option Addr} {on oc pn pc : Nat} {xi y0 y1 y2 n0 n1 n2 : Int}
  (hs : St10 (Array.replicate 7 false) a gx go gy x (.slice oA on oc) (.slice pA pn pc) (.slice (some ⟨W.heap.size, 0, none⟩) 1 1) (.agg #[.int .i64 y0, .int .i64 y1, .int .i64 y2]) xi)
  (bo : W.heap[go]? = some (.cells #[.slice oA on oc] 47 (0, 0))) (by_ : W.heap[gy]? = some (.cells #[.int .i64 y0, .int .i64 y1, .int .i64 y2] 123 (0, 0))) {w1 : World}
  (hrun : (Builtin.append_ #[47, 47] 47 #[.slice oA on oc, .slice (some ⟨W.heap.size, 0, none⟩) 1 1]).run Try.prog (W.drew.alloc (.cells #[.int .i64 xi] 3)) = .ok (.slice pA pn pc) w1)
  (bo1 : w1.heap[go]? = some (.cells #[.slice oA on oc] 47 (0, 0))) (by1 : w1.heap[gy]? = some (.cells #[.int .i64 y0, .int .i64 y1, .int .i64 y2] 123 (0, 0))) (bx1 : w1.heap[gx]? = some (.cells #[.int .i64 n0, .int .i64 n1, .int .i64 n2] 123 (0, 0))) (nxo : gx ≠ go) (nyo : gy ≠ go)
  (hQ : ∀ a', Q .normal a' ((((w1.setCell ⟨go, 0, none⟩ (.slice pA pn pc)).setCell ⟨gx, 0, none⟩ (.int .i64 y0)).setCell ⟨gx, 1, none⟩ (.int .i64 y1)).setCell ⟨gx, 2, none⟩ (.int .i64 y2))) :
  (Code.region id ops true).wpIn (Fence.wide.inRound l) n Try.prog Q a W := by
 have hmx : Try.prog.follows .mixedOrders = true := by kernel_rfl
 refine wpIn_region_any hmx ?_
 rw [hsz]
 have bx3 := blk_far (p := ⟨go, 0, none⟩) bx1 nxo (.slice pA pn pc)
 have by3 := blk_far (p := ⟨go, 0, none⟩) by1 nyo (.slice pA pn pc)
 have hu123 := Try.underlying123
 have HQ := Aside0.mk hQ
 clear hQ
 have key : ∀ (fuel : Nat) (L : Array Bool) (a : Act), valid10 L = true → cnt10 L + fuel = 7 → St10 L a gx go gy x (.slice oA on oc) (.slice pA pn pc) (.slice (some ⟨W.heap.size, 0, none⟩) 1 1) (.agg #[.int .i64 y0, .int .i64 y1, .int .i64 y2]) xi →
   wpAnyIn (Fence.wide.inRound l) n Try.prog .any ops Q fuel L a (wd10 W.drew (W.drew.alloc (.cells #[.int .i64 xi] 3)) w1 (w1.setCell ⟨go, 0, none⟩ (.slice pA pn pc)) ((((w1.setCell ⟨go, 0, none⟩ (.slice pA pn pc)).setCell ⟨gx, 0, none⟩ (.int .i64 y0)).setCell ⟨gx, 1, none⟩ (.int .i64 y1)).setCell ⟨gx, 2, none⟩ (.int .i64 y2)) L) := by
  intro fuel
  induction fuel with
  | zero =>
   intro L a hv hc hst
   have hLs : L.size = 7 := valid_size hv
   have hck := List.all_eq_true.1 hV L (mem_all10 L hLs)
   have hall := cnt_all hLs (by omega)
   refine wpAnyIn_done (check_done hck hv hall) ?_ 0
   rw [wd_all hall (by omega)]
   exact HQ.out a
  | succ fuel ih =>
   intro L a hv hc hst
   have hLs : L.size = 7 := valid_size hv
   have hck := List.all_eq_true.1 hV L (mem_all10 L hLs)
   refine ⟨fun h0 => by rw [wd_all (check_all hck hv h0) (by omega)]; exact HQ.out a, fun i hi => ?_⟩
   obtain ⟨i7, hbi, hvi⟩ := check_mem hck hv hi
   have hcn := cnt_set hLs i7 hbi
   have hiL : i < L.size := by omega
   have B := fun j => bAt_set (L := L) (i := i) (j := j) hiL
   have pv := valid_imp hv
   have pvi := valid_imp hvi
   have nb : ∀ {j k : Nat}, (bAt L j = true → bAt L k = true) → bAt L k = false → bAt L j = false := fun h hk => by
    cases hb : bAt L _ with
    | false => rfl
    | true => rw [h hb] at hk; cases hk
   have B' := B
   match i, i7 with
   | 0, _ =>
    have b3 := nb (fun h => (pv.2.1 h).1) hbi
    have b5 := nb pv.2.2.1 b3
    have b6 := nb (fun h => (pv.2.2.2 h).1) b5
    have hco : ((wd10 W.drew (W.drew.alloc (.cells #[.int .i64 xi] 3)) w1 (w1.setCell ⟨go, 0, none⟩ (.slice pA pn pc)) ((((w1.setCell ⟨go, 0, none⟩ (.slice pA pn pc)).setCell ⟨gx, 0, none⟩ (.int .i64 y0)).setCell ⟨gx, 1, none⟩ (.int .i64 y1)).setCell ⟨gx, 2, none⟩ (.int .i64 y2)) L)).cell? ⟨go, 0, none⟩ = some (.slice oA on oc) := by
     unfold wd10
     rw [b6, b5, b3]
     cases bAt L 2
     ·
      exact blk_cell (w := W.drew) bo 0
     ·
      exact blk_cell (blk_alloc (w := W.drew) bo _) 0
    refine opIn_value h0 rfl (by intro c hc; cases hc) (v := .slice oA on oc) (w1 := (wd10 W.drew (W.drew.alloc (.cells #[.int .i64 xi] 3)) w1 (w1.setCell ⟨go, 0, none⟩ (.slice pA pn pc)) ((((w1.setCell ⟨go, 0, none⟩ (.slice pA pn pc)).setCell ⟨gx, 0, none⟩ (.int .i64 y0)).setCell ⟨gx, 1, none⟩ (.int .i64 y1)).setCell ⟨gx, 2, none⟩ (.int .i64 y2)) L)) ?_ ?_
    ·
     have e := hst.s13
     generalize (wd10 W.drew (W.drew.alloc (.cells #[.int .i64 xi] 3)) w1 (w1.setCell ⟨go, 0, none⟩ (.slice pA pn pc)) ((((w1.setCell ⟨go, 0, none⟩ (.slice pA pn pc)).setCell ⟨gx, 0, none⟩ (.int .i64 y0)).setCell ⟨gx, 1, none⟩ (.int .i64 y1)).setCell ⟨gx, 2, none⟩ (.int .i64 y2)) L) = Wc at hco
     simp [go_sem, Act.eval, e, hco]
    ·
     have := ih (L.setIfInBounds 0 true) _ hvi (by omega) (hst.put 0 67 hiL (by decide) (by decide) (fun _ => rfl) (fun e => absurd e (by decide)) (fun e => absurd e (by decide)) (fun e => absurd e (by decide)) (fun e => absurd e (by decide)) rfl (by decide))
     rwa [wd_set (by omega) (by decide)] at this
   | 1, _ =>
    refine opIn_value h1 rfl (by intro c hc; cases hc) (v := .int .i64 xi) (w1 := (wd10 W.drew (W.drew.alloc (.cells #[.int .i64 xi] 3)) w1 (w1.setCell ⟨go, 0, none⟩ (.slice pA pn pc)) ((((w1.setCell ⟨go, 0, none⟩ (.slice pA pn pc)).setCell ⟨gx, 0, none⟩ (.int .i64 y0)).setCell ⟨gx, 1, none⟩ (.int .i64 y1)).setCell ⟨gx, 2, none⟩ (.int .i64 y2)) L)) ?_ ?_
    ·
     have e := hst.s17
     generalize (wd10 W.drew (W.drew.alloc (.cells #[.int .i64 xi] 3)) w1 (w1.setCell ⟨go, 0, none⟩ (.slice pA pn pc)) ((((w1.setCell ⟨go, 0, none⟩ (.slice pA pn pc)).setCell ⟨gx, 0, none⟩ (.int .i64 y0)).setCell ⟨gx, 1, none⟩ (.int .i64 y1)).setCell ⟨gx, 2, none⟩ (.int .i64 y2)) L) = Wc
     simp [go_sem, Act.eval, e]
    ·
     have := ih (L.setIfInBounds 1 true) _ hvi (by omega) (hst.put 1 68 hiL (by decide) (by decide) (fun e => absurd e (by decide)) (fun _ => rfl) (fun e => absurd e (by decide)) (fun e => absurd e (by decide)) (fun e => absurd e (by decide)) rfl (by decide))
     rwa [wd_set (by omega) (by decide)] at this
   | 2, _ =>
    have b3 := nb (fun h => (pv.2.1 h).2) hbi
    have b5 := nb pv.2.2.1 b3
    have b6 := nb (fun h => (pv.2.2.2 h).1) b5
    have hb1 : bAt L 1 = true := by
     have h := pvi.1 (by rw [B]; rfl)
     rwa [B, if_neg (by decide)] at h
    have hw : (wd10 W.drew (W.drew.alloc (.cells #[.int .i64 xi] 3)) w1 (w1.setCell ⟨go, 0, none⟩ (.slice pA pn pc)) ((((w1.setCell ⟨go, 0, none⟩ (.slice pA pn pc)).setCell ⟨gx, 0, none⟩ (.int .i64 y0)).setCell ⟨gx, 1, none⟩ (.int .i64 y1)).setCell ⟨gx, 2, none⟩ (.int .i64 y2)) L) = W.drew := by unfold wd10; rw [b6, b5, b3, hbi]; rfl
    rw [hw]
    refine opIn_value h2 rfl (by intro c hc; cases hc) (v := .slice (some ⟨W.heap.size, 0, none⟩) 1 1) (w1 := W.drew.alloc (.cells #[.int .i64 xi] 3)) ?_ ?_
    ·
     have e := hst.d1 hb1
     have e' : a.tmps[68]?.getD undef = .int .i64 xi := by simpa [Array.getD_eq_getD_getElem?] using e
     have hu47 := Try.underlying47
     simp [go_sem, Act.eval, e, e', hu47]
     try rfl
    ·
     have := ih (L.setIfInBounds 2 true) _ hvi (by omega) (hst.put 2 69 hiL (by decide) (by decide) (fun e => absurd e (by decide)) (fun e => absurd e (by decide)) (fun _ => rfl) (fun e => absurd e (by decide)) (fun e => absurd e (by decide)) rfl (by decide))
     have hw2 : wd10 W.drew (W.drew.alloc (.cells #[.int .i64 xi] 3)) w1 (w1.setCell ⟨go, 0, none⟩ (.slice pA pn pc)) ((((w1.setCell ⟨go, 0, none⟩ (.slice pA pn pc)).setCell ⟨gx, 0, none⟩ (.int .i64 y0)).setCell ⟨gx, 1, none⟩ (.int .i64 y1)).setCell ⟨gx, 2, none⟩ (.int .i64 y2)) (L.setIfInBounds 2 true) = W.drew.alloc (.cells #[.int .i64 xi] 3) := by
      simp [wd10, B, b6, b5, b3]
     rwa [hw2] at this
   | 3, _ =>
    have b5 := nb pv.2.2.1 hbi
    have b6 := nb (fun h => (pv.2.2.2 h).1) b5
    have hb := pvi.2.1 (by rw [B]; rfl)
    rw [B, B, if_neg (by decide), if_neg (by decide)] at hb
    have hw : (wd10 W.drew (W.drew.alloc (.cells #[.int .i64 xi] 3)) w1 (w1.setCell ⟨go, 0, none⟩ (.slice pA pn pc)) ((((w1.setCell ⟨go, 0, none⟩ (.slice pA pn pc)).setCell ⟨gx, 0, none⟩ (.int .i64 y0)).setCell ⟨gx, 1, none⟩ (.int .i64 y1)).setCell ⟨gx, 2, none⟩ (.int .i64 y2)) L) = W.drew.alloc (.cells #[.int .i64 xi] 3) := by unfold wd10; rw [b6, b5, hbi, hb.2]; rfl
    rw [hw]
    refine opIn_value h3 rfl (by intro c hc; cases hc) (v := .slice pA pn pc) (w1 := w1) ?_ ?_
    ·
     have e := hst.d0 hb.1
     have e2 := hst.d2 hb.2
     have ea : (#[Operand.tmp 67, Operand.tmp 69].map a.eval) = #[.slice oA on oc, .slice (some ⟨W.heap.size, 0, none⟩) 1 1] := by
      simp only [List.map_toArray, List.map_cons, List.map_nil, Act.eval, e, e2]
     rw [BigFrame.execOp_builtin, BigFrame.builtin_append, ea, Sem.run_bind, hrun]
     rfl
    ·
     have := ih (L.setIfInBounds 3 true) _ hvi (by omega) (hst.put 3 70 hiL (by decide) (by decide) (fun e => absurd e (by decide)) (fun e => absurd e (by decide)) (fun e => absurd e (by decide)) (fun _ => rfl) (fun e => absurd e (by decide)) rfl (by decide))
     have hw2 : wd10 W.drew (W.drew.alloc (.cells #[.int .i64 xi] 3)) w1 (w1.setCell ⟨go, 0, none⟩ (.slice pA pn pc)) ((((w1.setCell ⟨go, 0, none⟩ (.slice pA pn pc)).setCell ⟨gx, 0, none⟩ (.int .i64 y0)).setCell ⟨gx, 1, none⟩ (.int .i64 y1)).setCell ⟨gx, 2, none⟩ (.int .i64 y2)) (L.setIfInBounds 3 true) = w1 := by
      simp [wd10, B, b6, b5]
     rwa [hw2] at this
   | 4, _ =>
    have b6 := nb (fun h => (pv.2.2.2 h).2) hbi
    have hg : ((wd10 W.drew (W.drew.alloc (.cells #[.int .i64 xi] 3)) w1 (w1.setCell ⟨go, 0, none⟩ (.slice pA pn pc)) ((((w1.setCell ⟨go, 0, none⟩ (.slice pA pn pc)).setCell ⟨gx, 0, none⟩ (.int .i64 y0)).setCell ⟨gx, 1, none⟩ (.int .i64 y1)).setCell ⟨gx, 2, none⟩ (.int .i64 y2)) L)).heap[gy]? = some (.cells #[.int .i64 y0, .int .i64 y1, .int .i64 y2] 123 (0, 0)) := by
     unfold wd10
     rw [b6]
     cases bAt L 5
     ·
      cases bAt L 3
      ·
       cases bAt L 2
       ·
        exact by_
       ·
        exact blk_alloc (w := W.drew) by_ _
      ·
       exact by1
     ·
      exact by3
    refine opIn_value h4 rfl (by intro c hc; cases hc) (v := .agg #[.int .i64 y0, .int .i64 y1, .int .i64 y2]) (w1 := (wd10 W.drew (W.drew.alloc (.cells #[.int .i64 xi] 3)) w1 (w1.setCell ⟨go, 0, none⟩ (.slice pA pn pc)) ((((w1.setCell ⟨go, 0, none⟩ (.slice pA pn pc)).setCell ⟨gx, 0, none⟩ (.int .i64 y0)).setCell ⟨gx, 1, none⟩ (.int .i64 y1)).setCell ⟨gx, 2, none⟩ (.int .i64 y2)) L)) ?_ ?_
    ·
     have e := hst.s18
     generalize (wd10 W.drew (W.drew.alloc (.cells #[.int .i64 xi] 3)) w1 (w1.setCell ⟨go, 0, none⟩ (.slice pA pn pc)) ((((w1.setCell ⟨go, 0, none⟩ (.slice pA pn pc)).setCell ⟨gx, 0, none⟩ (.int .i64 y0)).setCell ⟨gx, 1, none⟩ (.int .i64 y1)).setCell ⟨gx, 2, none⟩ (.int .i64 y2)) L) = Wc at hg
     have c0 : Wc.cell? ⟨gy, 0, none⟩ = some (.int .i64 y0) := blk_cell hg 0
     have c1 : Wc.cell? ⟨gy, 1, none⟩ = some (.int .i64 y1) := blk_cell hg 1
     have c2 : Wc.cell? ⟨gy, 2, none⟩ = some (.int .i64 y2) := blk_cell hg 2
     simp [go_sem, Act.eval, e, c0, c1, c2, hu123]
    ·
     have := ih (L.setIfInBounds 4 true) _ hvi (by omega) (hst.put 4 71 hiL (by decide) (by decide) (fun e => absurd e (by decide)) (fun e => absurd e (by decide)) (fun e => absurd e (by decide)) (fun e => absurd e (by decide)) (fun _ => rfl) rfl (by decide))
     rwa [wd_set (by omega) (by decide)] at this
   | 5, _ =>
    have b6 := nb (fun h => (pv.2.2.2 h).1) hbi
    have hb := pvi.2.2.1 (by rw [B]; rfl)
    rw [B, if_neg (by decide)] at hb
    have hw : (wd10 W.drew (W.drew.alloc (.cells #[.int .i64 xi] 3)) w1 (w1.setCell ⟨go, 0, none⟩ (.slice pA pn pc)) ((((w1.setCell ⟨go, 0, none⟩ (.slice pA pn pc)).setCell ⟨gx, 0, none⟩ (.int .i64 y0)).setCell ⟨gx, 1, none⟩ (.int .i64 y1)).setCell ⟨gx, 2, none⟩ (.int .i64 y2)) L) = w1 := by unfold wd10; rw [b6, hbi, hb]; rfl
    rw [hw]
    refine opIn_skip h5 rfl (by intro c hc; cases hc) (w1 := w1.setCell ⟨go, 0, none⟩ (.slice pA pn pc)) ?_ ?_
    ·
     have e := hst.s13
     have e2 := hst.d3 hb
     have c0 : w1.cell? ⟨go, 0, none⟩ = some (.slice oA on oc) := blk_cell bo1 0
     have z0 : w1.frozen? ⟨go, 0, none⟩ = false := blk_frozen bo1 0
     simp [go_sem, Act.eval, e, e2, c0, z0]
    ·
     have := ih (L.setIfInBounds 5 true) _ hvi (by omega) (hst.skip 5 hiL (by decide))
     have hw2 : wd10 W.drew (W.drew.alloc (.cells #[.int .i64 xi] 3)) w1 (w1.setCell ⟨go, 0, none⟩ (.slice pA pn pc)) ((((w1.setCell ⟨go, 0, none⟩ (.slice pA pn pc)).setCell ⟨gx, 0, none⟩ (.int .i64 y0)).setCell ⟨gx, 1, none⟩ (.int .i64 y1)).setCell ⟨gx, 2, none⟩ (.int .i64 y2)) (L.setIfInBounds 5 true) = (w1.setCell ⟨go, 0, none⟩ (.slice pA pn pc)) := by
      simp [wd10, B, b6]
     rwa [hw2] at this
   | 6, _ =>
    have hb := pvi.2.2.2 (by rw [B]; rfl)
    rw [B, B, if_neg (by decide), if_neg (by decide)] at hb
    have hw : (wd10 W.drew (W.drew.alloc (.cells #[.int .i64 xi] 3)) w1 (w1.setCell ⟨go, 0, none⟩ (.slice pA pn pc)) ((((w1.setCell ⟨go, 0, none⟩ (.slice pA pn pc)).setCell ⟨gx, 0, none⟩ (.int .i64 y0)).setCell ⟨gx, 1, none⟩ (.int .i64 y1)).setCell ⟨gx, 2, none⟩ (.int .i64 y2)) L) = (w1.setCell ⟨go, 0, none⟩ (.slice pA pn pc)) := by unfold wd10; rw [hbi, hb.1]; rfl
    rw [hw]
    refine opIn_skip h6 rfl (by intro c hc; cases hc) (w1 := ((((w1.setCell ⟨go, 0, none⟩ (.slice pA pn pc)).setCell ⟨gx, 0, none⟩ (.int .i64 y0)).setCell ⟨gx, 1, none⟩ (.int .i64 y1)).setCell ⟨gx, 2, none⟩ (.int .i64 y2))) ?_ ?_
    ·
     have e := hst.s14
     have e2 := hst.d4 hb.2
     have c0 : (w1.setCell ⟨go, 0, none⟩ (.slice pA pn pc)).cell? ⟨gx, 0, none⟩ = some (.int .i64 n0) := blk_cell bx3 0
     have c1 : (w1.setCell ⟨go, 0, none⟩ (.slice pA pn pc)).cell? ⟨gx, 1, none⟩ = some (.int .i64 n1) := blk_cell bx3 1
     have c2 : (w1.setCell ⟨go, 0, none⟩ (.slice pA pn pc)).cell? ⟨gx, 2, none⟩ = some (.int .i64 n2) := blk_cell bx3 2
     have z0 : ∀ i, (w1.setCell ⟨go, 0, none⟩ (.slice pA pn pc)).frozen? ⟨gx, i, none⟩ = false := blk_frozen bx3
     generalize (w1.setCell ⟨go, 0, none⟩ (.slice pA pn pc)) = Wc at c0 c1 c2 z0
     simp [go_sem, Act.eval, e, e2, c0, c1, c2, z0, hu123]
    ·
     have := ih (L.setIfInBounds 6 true) _ hvi (by omega) (hst.skip 6 hiL (by decide))
     have hw2 : wd10 W.drew (W.drew.alloc (.cells #[.int .i64 xi] 3)) w1 (w1.setCell ⟨go, 0, none⟩ (.slice pA pn pc)) ((((w1.setCell ⟨go, 0, none⟩ (.slice pA pn pc)).setCell ⟨gx, 0, none⟩ (.int .i64 y0)).setCell ⟨gx, 1, none⟩ (.int .i64 y1)).setCell ⟨gx, 2, none⟩ (.int .i64 y2)) (L.setIfInBounds 6 true) = ((((w1.setCell ⟨go, 0, none⟩ (.slice pA pn pc)).setCell ⟨gx, 0, none⟩ (.int .i64 y0)).setCell ⟨gx, 1, none⟩ (.int .i64 y1)).setCell ⟨gx, 2, none⟩ (.int .i64 y2)) := by
      simp [wd10, B]
     rwa [hw2] at this
 have h := key 7 (Array.replicate 7 false) a (by rfl) (by rfl) hs
 exact h
end Go.Proofs.Ytipphcjgdebecaa.PA
namespace Go.Proofs.Ytipphcjgdebecaa.PA
open Go.RowKit Go.Proofs.YtipphcjgdebecaaW.PrintWords Go.Proofs.YtipphcjgdebecaaW.PrintLast Go.Proofs.YtipphcjgdebecaaW.PrintMore
attribute [local go_sem] max2_int min2_int max_two min_two max_three min_three max_four min_four
set_option linter.unusedVariables false
set_option linter.unusedSimpArgs false
attribute [local go_sem] Oper.semAt_some
theorem leave93 (E : OE) (A : Nat → Prop) (w : World) (tmps : Array Value) (v : Value) (o : List Int) (ok : Nat → Prop) (hm : E.m < w.heap.size) (hw0 : E.w0.heap.size ≤ w.heap.size) (ht : tmps.getD 12 undef = v) (R : Ending → World → Prop)
  (hfin : ∀ W, EnvInv E A W → Kd.R (Kd.int .i64) 3 W E.w0.heap.size ok v o → KB (fun k => k = E.m) w W → R (.returned v) W) :
  ∀ (Ds : List Nat) (W : World), Ds.Nodup → (∀ D ∈ Ds, W.heap[D]? = some (.deferred (some [])) ∧ w.heap.size ≤ D) → EnvInv E A W → Kd.R (Kd.int .i64) 3 W E.w0.heap.size ok v o → KB (fun k => k = E.m) w W →
   LeavesInM Fence.wide 12 Try.prog Try.f93 tmps R (Ds.map fun D => { target := .collected D, args := #[] }) .returning W := by
 intro Ds
 induction Ds with
 | nil =>
  intro W _ _ he hr hk
  refine ⟨_, results_tmp rfl _ _ _, ?_⟩
  rw [ht]
  exact hfin W he hr hk
 | cons D Ds ih =>
  intro W hnd hD he hr hk
  have h1 := hD D (by simp)
  refine ⟨by simp, .inl ⟨D, _, rfl, run_takeDeferred h1.1, ?_⟩⟩
  have hput := grownBy_putObj' W D (.deferred none)
  rw [List.nodup_cons] at hnd
  refine ih _ hnd.2 (fun D' hD' => ?_) ?_ ?_ ?_
  ·
   have h2 := hD D' (by simp [hD'])
   exact ⟨by rw [World.putObj_heap_other (by rintro rfl; exact hnd.1 hD')]; exact h2.1, h2.2⟩
  ·
   exact he.own' hput (fun r e => by injection e with e; subst e; exact ⟨by omega, by omega, _, h1.1, rfl⟩)
  ·
   refine Kd.R_mono (Kd.R_step (Kd.R_bound hr) (fun k hk' hlt => hput.block k hlt (fun e => ?_))) (fun k hk => hk.1)
   obtain ⟨q, _, cells, hc⟩ := hk'.2.2.2
   injection e with e
   subst e
   rw [h1.1] at hc
   cases hc
  ·
   exact hk.trans (KB.of_grown hput) (fun k e => .inr (by injection e with e; omega))
def fr93 (E : OE) (s : Sp) (first slack : Int) (gn gs gq gd gf go gx : Nat) (z15 z16 z22 z23 z24 z25 z26 z27 z28 z29 z30 z31 z32 t33 t34 t35 t36 t37 t38 : Value) : Array Value := #[.agg (NETC E), .agg #[.int .i64 s.p, .int .i64 s.h, .int .i64 s.r], .int .i64 first, .int .i64 slack, .slice E.Ad E.D.length E.cd, SEARCHF E, .pointer (some ⟨gn, 0, none⟩), .pointer (some ⟨gs, 0, none⟩), undef, .pointer (some ⟨gq, 0, none⟩), .pointer (some ⟨gd, 0, none⟩), .pointer (some ⟨gf, 0, none⟩), .slice none 0 0, .pointer (some ⟨go, 0, none⟩), .pointer (some ⟨gx, 0, none⟩), z15, z16, undef, undef, undef, undef, undef, z22, z23, z24, z25, z26, z27, z28, z29, z30, z31, z32, t33, t34, t35, t36, t37, t38, undef, undef, undef, undef, undef, undef, undef, undef, undef, undef, undef, undef, undef, undef, undef, undef, undef, undef, undef, undef, undef, undef, undef, undef, undef, undef, undef, undef, undef, undef, undef, undef, undef, undef]
def mu93 (gx : Nat) (W : World) : Nat := match W.cell? ⟨gx, 2, none⟩ with | some (.int _ r) => cntB r | _ => 0
theorem mu93_eq {gx : Nat} {W : World} {r : Int} (h : W.cell? ⟨gx, 2, none⟩ = some (.int .i64 r)) : mu93 gx W = cntB r := by unfold mu93; rw [h]
def LI93 (E : OE) (A : Nat → Prop) (w : World) (s : Sp) (first slack : Int) (gq gd gf go gx : Nat) (q0 q1 q2 : Int) (a : Act) (W : World) : Prop := ∃ (n : Sp) (o : List Int) (v : Value) (k : Nat) (Ds : List Nat) (z15 z16 z22 z23 z24 z25 z26 z27 z28 z29 z30 z31 z32 t33 t34 t35 t36 t37 t38 : Value), a = { tmps := fr93 E s first slack w.heap.size (w.heap.size + 1) gq gd gf go gx z15 z16 z22 z23 z24 z25 z26 z27 z28 z29 z30 z31 z32 t33 t34 t35 t36 t37 t38, defers := Ds.map fun D => { target := .collected D, args := #[] } } ∧
   Aside0 (St93 E A w w.heap.size gq gd gf go gx slack n o v Ds W ∧ Ds.Nodup ∧ E.At n ∧ cntB n.r < cntB s.r ∧ cntB n.r ≤ k ∧ (E.S n).2.2 = true ∧ slack ≤ (E.S n).2.1 ∧ sameV E.l0 E.l2 E.D E.S slack k n o = sameV E.l0 E.l2 E.D E.S slack 5 ⟨q0, q1, q2⟩ [first] ∧ o.length + cntB n.r ≤ 5)
theorem find_at (p : Int → Bool) (l pre : List Int) (x : Int) (h : pre ++ [x] <+: l) (hn : ∀ i ∈ pre, p i = false) (hx : p x = true) : l.find? p = some x := by
 obtain ⟨t, rfl⟩ := h
 simp only [List.find?_append]
 have h1 : pre.find? p = none := by
  rw [List.find?_eq_none]
  intro i hi
  rw [hn i hi]
  simp
 rw [h1]
 simp [hx]
def IX93 (E : OE) (A : Nat → Prop) (w : World) (gq gd gf go gx : Nat) (slack : Int) (n : Sp) (o : List Int) (Ds : List Nat) (c : Code) (pre : List (LoopOf n.r)) (W : World) : Prop :=
 ∃ (pre0 : List (LoopOf n.r)) (x : LoopOf n.r) (v1 : Value), pre = pre0 ++ [x] ∧ c = .exit 2 ∧ (∀ i ∈ pre0.map (·.1), goodV E.l0 E.l2 E.D E.S slack n i = false) ∧ goodV E.l0 E.l2 E.D E.S slack n x.1 = true ∧ St93 E A w w.heap.size gq gd gf go gx slack (repV E.l0 E.l2 E.D n x.1).1 (o ++ [x.1]) v1 Ds W
theorem allocs7 (w : World) (o1 o2 o3 o4 o5 o6 o7 : Obj) : ∃ w4, ((((((w.alloc o1).alloc o2).alloc o3).alloc o4).alloc o5).alloc o6).alloc o7 = w4 ∧ w4.heap[w.heap.size]? = some o1 ∧ w4.heap[w.heap.size + 1]? = some o2 ∧ w4.heap[w.heap.size + 1 + 1]? = some o3 ∧ w4.heap[w.heap.size + 1 + 1 + 1]? = some o4 ∧
  w4.heap[w.heap.size + 1 + 1 + 1 + 1]? = some o5 ∧ w4.heap[w.heap.size + 1 + 1 + 1 + 1 + 1]? = some o6 ∧ w4.heap[w.heap.size + 1 + 1 + 1 + 1 + 1 + 1]? = some o7 ∧ w4.heap.size = w.heap.size + 7 ∧ Below w.heap.size w w4 := by
 obtain ⟨w4, hw4, a1, a2, a3, a4, hs, hb⟩ := allocs4 w o1 o2 o3 o4
 have h5 := blk_new w4 o5
 have h6 := blk_new (w4.alloc o5) o6
 have h7 := blk_new ((w4.alloc o5).alloc o6) o7
 rw [World.size_alloc] at h6
 rw [World.size_alloc, World.size_alloc] at h7
 rw [hs] at h5 h6 h7
 refine ⟨_, rfl, ?_, ?_, ?_, ?_, ?_, ?_, ?_, ?_, ?_⟩
 all_goals rw [hw4]
 ·
  exact blk_alloc (blk_alloc (blk_alloc a1 _) _) _
 ·
  exact blk_alloc (blk_alloc (blk_alloc a2 _) _) _
 ·
  exact blk_alloc (blk_alloc (blk_alloc a3 _) _) _
 ·
  exact blk_alloc (blk_alloc (blk_alloc a4 _) _) _
 ·
  exact blk_alloc (blk_alloc h5 _) _
 ·
  exact blk_alloc h6 _
 ·
  exact h7
 ·
  simp [hs]
 ·
  exact below_alloc (below_alloc (below_alloc hb _) _) _
theorem R_one {W : World} {g : Nat} {x : Int} {base : Nat} {ok : Nat → Prop} (hb : W.heap[g]? = some (.cells #[.int .i64 x] 3 (0, 0))) (hg : base ≤ g) (hok : ok g) : Kd.R (Kd.int .i64) 3 W base ok (.slice (some ⟨g, 0, none⟩) 1 1) [x] :=
 Kd.R_of_own (h1 := fun _ => rfl) ⟨rfl, .inr ⟨g, 1, _, rfl, hg, hb, Nat.le_refl _, by decide, rfl, rfl⟩⟩ (fun k hk => by
  have : g = k := by simpa [Value.ownBlock] using hk
  exact this ▸ hok)
set_option maxRecDepth 100000 in
set_option maxHeartbeats 8000000 in
theorem same_calls (E : OE) (hE : E.Fit) (s : Sp) (hs : E.At s) (first slack : Int) (hf : first ∈ loopsOf s.r 5) (hrp : (repV E.l0 E.l2 E.D s first).2.2 = true) (hr : (E.S (repV E.l0 E.l2 E.D s first).1).2.2 = true) (hsl : slack ≤ (E.S (repV E.l0 E.l2 E.D s first).1).2.1)
  (IH : ∀ s', E.At s' → cntB s'.r < cntB s.r → SearchC E s') (A : Nat → Prop) (w : World) (hinv : EnvInv E A w) (hA : ∀ k, A k → k < w.heap.size) :
  Calls Try.prog 93 #[.agg (NETC E), .agg #[.int .i64 s.p, .int .i64 s.h, .int .i64 s.r], .int .i64 first, .int .i64 slack, .slice E.Ad E.D.length E.cd, SEARCHF E] w fun e w' =>
   ∃ v, e = .returned v ∧ E.Row A w' v (sameV E.l0 E.l2 E.D E.S slack 5 (repV E.l0 E.l2 E.D s first).1 [first]) ∧ EnvInv E A w' ∧ KB (fun k => k = E.m) w w' := by
 have hu99 := Try.underlying99
 have hu123 := Try.underlying123
 have hu26 := Try.underlying26
 have HB := Aside0.mk (Below.refl w.heap.size w)
 have hx05 : 0 ≤ first ∧ first < 5 := by
  obtain ⟨xk, hxk, hxk5, _⟩ := (mem_loopsOf s.r 5 first).1 hf
  omega
 have hx5 := hs.2.2.2 first hf
 have hrep : ∀ W, Below E.w0.heap.size E.w0 W → (Kd.int .i64).C W E.Ad E.D.length E.D → Calls Try.prog 92 #[.agg (NETC E), .agg #[.int .i64 s.p, .int .i64 s.h, .int .i64 s.r], .int .i64 first, .slice E.Ad E.D.length E.cd] W fun e w' =>
   e = .returned (.tuple #[spV (repV E.l0 E.l2 E.D s first).1, .int .i64 (repV E.l0 E.l2 E.D s first).2.1, .bool (repV E.l0 E.l2 E.D s first).2.2]) ∧ Below W.heap.size W w' := fun W hW hC =>
  repaired_calls _ _ _ _ _ _ _ _ s first _ _ E.D W (Kd.C_below hE.r0 hW) (Kd.C_below hE.r2 hW) hC hs.2.1 (by have := hE.h2; have := hs.2.2.1; omega) (by omega) hx5 (by rw [hE.hrow s.p hs.2.1 hs.2.2.1]; omega) (by rw [hE.hD]; omega) (by omega)
 have hnx := hs.next hf hrp
 rw [hrp] at hrep
 generalize hq : repV E.l0 E.l2 E.D s first = q at hrep hnx hr hsl ⊢
 obtain ⟨⟨q0, q1, q2⟩, ow, can⟩ := q
 simp only [spV_eq] at hrep
 try dsimp only at hrep hnx hr hsl ⊢
 have HREP := Aside0.mk hrep
 have HNX := Aside0.mk hnx
 have HSL := Aside0.mk (And.intro hr hsl)
 have HI := Aside0.mk hinv
 have HIH := Aside0.mk IH
 clear IH hs hinv hrep hnx hr hsl hq hrp hf hx5
 refine (callsIn_wide (n := 12)).1 ?_
 refine callsIn_of_wp_marks Try.func93 rfl trivial ?_ rfl
 refine wpIn_wide.2 ?_
 simp only [Try.ntmps93, List.size_toArray, List.length_cons, List.length_nil, Nat.reduceAdd, Nat.reduceSub, Array.replicate_succ, Array.replicate_zero, List.push_toArray, List.append_toArray, List.nil_append, List.cons_append]
 have HW0 : Aside0 (E.w0.heap.size ≤ w.heap.size) := ⟨HI.out.hb.size⟩
 go_wp2_with fail
 obtain ⟨w8, hw8, bn, bs, bq, bd, bf, bv, bo, hsz, hb⟩ := allocs7 w (.cells (NETC E) 99) (.cells #[.int .i64 s.p, .int .i64 s.h, .int .i64 s.r] 123) (.cells #[.int .i64 slack] 3) (.cells #[.slice E.Ad E.D.length E.cd] 47) (.cells #[SEARCHF E] 121) (.cells #[.int .i64 first] 3) (.cells #[.slice (some ⟨w.heap.size + 1 + 1 + 1 + 1 + 1, 0, none⟩) 1 1] 47)
 rw [hw8]
 clear hw8
 have hbe : Below E.w0.heap.size E.w0 w8 := HI.out.hb.trans (hb.mono HW0.out)
 refine (HREP.out w8 hbe (Kd.C_below (Kd.R_reads' HI.out.due).2.2 hb)).mono ?_
 rintro e w9 ⟨rfl, hb9⟩
 have ROW := Aside0.mk (Kd.R_below (R_one (base := E.w0.heap.size) (ok := fun k => w.heap.size ≤ k ∧ k ≠ w.heap.size + 1 + 1) bv (by have := HW0.out; omega) ⟨by omega, by omega⟩) hb9)
 replace bn := Aside0.mk (blk_below bn hb9)
 replace bq := Aside0.mk (blk_below bq hb9)
 replace bd := Aside0.mk (blk_below bd hb9)
 replace bf := Aside0.mk (blk_below bf hb9)
 replace bo := Aside0.mk (blk_below bo hb9)
 have hsz9 : w.heap.size + 7 ≤ w9.heap.size := by have := hb9.size; omega
 have HB9 := Aside0.mk (below_step hb hb9)
 clear hb hb9 hbe bs bv hsz
 have hwn : w9.heap.size = w9.heap.size := rfl
 go_wp2_with fail
 refine (wpIn_wide (n := 12)).1 ?_
 have St0 : St93 E A w w.heap.size (w.heap.size + 1 + 1) (w.heap.size + 1 + 1 + 1) (w.heap.size + 1 + 1 + 1 + 1) (w.heap.size + 1 + 1 + 1 + 1 + 1 + 1) w9.heap.size slack ⟨q0, q1, q2⟩ [first] (.slice (some ⟨w.heap.size + 1 + 1 + 1 + 1 + 1, 0, none⟩) 1 1) [] (w9.alloc (.cells #[.int .i64 q0, .int .i64 q1, .int .i64 q2] 123)) := by
  have hb10 := below_alloc (Below.refl w9.heap.size w9) (.cells #[.int .i64 q0, .int .i64 q1, .int .i64 q2] 123)
  have hbw := HB9.out.alloc HB9.out.size (.cells #[.int .i64 q0, .int .i64 q1, .int .i64 q2] 123)
  refine ⟨?_, blk_below bn.out hb10, blk_below bq.out hb10, blk_below bd.out hb10, blk_below bf.out hb10, blk_below bo.out hb10, blk_new _ _, Kd.R_below ROW.out hb10, KB.of_below hbw _, ⟨by omega, by omega⟩, by simp⟩
  refine (HI.out.imp (A' := fun k => A k ∨ k = w.heap.size + 1 + 1 + 1 + 1 + 1 + 1 ∨ k = w9.heap.size ∨ some k = (Value.slice (some ⟨w.heap.size + 1 + 1 + 1 + 1 + 1, 0, none⟩) 1 1).ownBlock) (fun k hk => ?_)).step (KB.of_below hbw _)
  have hwe := HW0.out
  rcases hk with hk | hk | hk | hk
  ·
   exact ⟨HI.out.lo k hk, .inl hk⟩
  ·
   exact ⟨by omega, .inr (by omega)⟩
  ·
   exact ⟨by omega, .inr (by omega)⟩
  ·
   have : k = w.heap.size + 1 + 1 + 1 + 1 + 1 := by simpa [Value.ownBlock] using hk
   exact ⟨by omega, .inr (by omega)⟩
 have hne : w.heap.size ≠ w.heap.size + 1 + 1 + 1 + 1 + 1 + 1 ∧ w.heap.size ≠ w9.heap.size ∧ w.heap.size + 1 + 1 ≠ w.heap.size + 1 + 1 + 1 + 1 + 1 + 1 ∧ w.heap.size + 1 + 1 ≠ w9.heap.size ∧ w.heap.size + 1 + 1 + 1 ≠ w.heap.size + 1 + 1 + 1 + 1 + 1 + 1 ∧ w.heap.size + 1 + 1 + 1 ≠ w9.heap.size ∧ w.heap.size + 1 + 1 + 1 + 1 ≠ w.heap.size + 1 + 1 + 1 + 1 + 1 + 1 ∧ w.heap.size + 1 + 1 + 1 + 1 ≠ w9.heap.size ∧ w.heap.size + 1 + 1 + 1 + 1 + 1 + 1 ≠ w9.heap.size := by omega
 clear bn bq bd bf bo ROW HB9 hwn
 have ST0 := Aside0.mk St0
 have HNE := Aside0.mk hne
 clear St0 hne
 generalize w9.alloc (.cells #[.int .i64 q0, .int .i64 q1, .int .i64 q2] 123) = W0 at ST0 ⊢
 generalize w9.heap.size = gx at ST0 HNE hsz9 ⊢
 generalize w.heap.size + 1 + 1 + 1 + 1 + 1 + 1 = go at ST0 HNE ⊢
 generalize w.heap.size + 1 + 1 + 1 + 1 = gf at ST0 HNE ⊢
 generalize w.heap.size + 1 + 1 + 1 = gd at ST0 HNE ⊢
 generalize w.heap.size + 1 + 1 = gq at ST0 HNE ⊢
 refine wpIn_loop (LI93 E A w s first slack gq gd gf go gx q0 q1 q2)
  (fun _ W => mu93 gx W) ?h0 ?round
 case h0 =>
  have hnx := HNX.out
  have hc5 := cnt_le s.r
  have hnx2 : cntB q2 + 1 = cntB s.r := hnx.2
  exact ⟨⟨q0, q1, q2⟩, [first], _, 5, [], _, _, _, _, _, _, _, _, _, _, _, _, _, _, _, _, _, _, _, rfl, ⟨ST0.out, by simp, hnx.1, by show cntB q2 < _; omega, by show cntB q2 ≤ _; omega, HSL.out.1, HSL.out.2, rfl, by show 1 + cntB q2 ≤ 5; omega⟩⟩
 case round =>
  rintro a W ⟨n, o, v, k, Ds, z15, z16, z22, z23, z24, z25, z26, z27, z28, z29, z30, z31, z32, t33, t34, t35, t36, t37, t38, rfl, HST⟩
  refine wpIn_wide.2 ?_
  unfold fr93
  have hn0 : 0 ≤ n.r := HST.out.2.2.1.1.1
  have hc2 : W.cell? ⟨gx, 2, none⟩ = some (.int .i64 n.r) := blk_cell HST.out.1.xx 2
  by_cases hz : n.r = 0
  ·
   have hzb : (n.r != 0) = false := by simp [hz]
   have hco : W.cell? ⟨go, 0, none⟩ = some v := blk_cell HST.out.1.xo 0
   go_wp2_with fail
   have hst := HST.out
   have hm := HI.out.map.lt
   refine leave93 E (fun k => A k ∨ k = go ∨ k = gx ∨ some k = v.ownBlock) w _ v o (fun k => w.heap.size ≤ k ∧ k ≠ gq) hm HW0.out rfl _ ?_ Ds W hst.2.1 hst.1.marks hst.1.env hst.1.row hst.1.kb
   intro W' he hr hk
   have hout : sameV E.l0 E.l2 E.D E.S slack k n o = o := by
    cases k with
    | zero => rfl
    | succ k => unfold sameV; rw [if_pos hz]
   rw [← hst.2.2.2.2.2.2.2.1, hout]
   refine ⟨v, rfl, Kd.R_mono hr (fun k hk => ⟨by omega, fun ha => by have := hA k ha; omega⟩), he.imp (fun k hk => ⟨HI.out.lo k hk, .inl (.inl hk)⟩), hk⟩
  ·
   have hzb : (n.r != 0) = true := by simp [hz]
   go_wp2_with (go_at_call 76; refine (loops_calls n.r W).mono ?_; rintro e W1 ⟨BB, rfl, hBB, hge, hb⟩)
   refine (wpIn_wide (n := 12)).1 ?_
   have hst1 := HST.out.1.below hb
   have hlt1 : BB < W1.heap.size := blk_lt hBB
   have hDs1 : ∀ D ∈ Ds, D < W1.heap.size := fun D hD => blk_lt (hst1.marks D hD).1
   have hwW1 : w.heap.size ≤ W1.heap.size := hst1.kb.size
   have hmw := HI.out.map.lt
   have hAt := HST.out.2.2.1
   have hcs := HST.out.2.2.2.1
   have hkW := HST.out
   have HST1 := Aside0.mk hst1
   refine wpIn_rangeFunc_ownG rfl (by omega) (gf := 97) (lb := #[.pointer (some ⟨BB, 0, none⟩)]) rfl trivial (enters_of Try.func97 (by kernel_rfl) rfl) (loops_stops _ (by omega) n.r hn0 BB W1 hBB) (fun h k => KeptAt.trans h k) (keptAt_put hlt1) (Below.refl _ _) (fun _ => rfl)
    (fun (pre : List (LoopOf n.r)) W => St93 E A w w.heap.size gq gd gf go gx slack n o v Ds W ∧ BB < W.heap.size ∧ ∀ i ∈ pre.map (fun y : LoopOf n.r => y.1), goodV E.l0 E.l2 E.D E.S slack n i = false)
    (IX93 E A w gq gd gf go gx slack n o Ds)
    (fun s A B row hs hg hr => ⟨hs.1.own hwW1 HW0.out hmw hDs1 hg hr, Nat.lt_of_lt_of_le hs.2.1 hg.size, hs.2.2⟩)
    (fun c s A B row hs hg hr => by
     obtain ⟨p0, x, v1, e1, e2, e3, e4, e5⟩ := hs
     exact ⟨p0, x, v1, e1, e2, e3, e4, e5.own hwW1 HW0.out hmw hDs1 hg hr⟩)
    ⟨hst1, hlt1, by simp⟩
    (fun x => { tmps := #[.agg (NETC E), .agg #[.int .i64 s.p, .int .i64 s.h, .int .i64 s.r], .int .i64 first, .int .i64 slack, .slice E.Ad E.D.length E.cd, SEARCHF E, .pointer (some ⟨w.heap.size, 0, none⟩), .pointer (some ⟨w.heap.size + 1, 0, none⟩), undef, .pointer (some ⟨gq, 0, none⟩), .pointer (some ⟨gd, 0, none⟩), .pointer (some ⟨gf, 0, none⟩), .slice none 0 0, .pointer (some ⟨go, 0, none⟩), .pointer (some ⟨gx, 0, none⟩), z15, z16, .int .i64 x.1, undef, undef, undef, undef, z22, z23, z24, z25, z26, z27, z28, z29, z30, z31, z32, .pointer (some ⟨gx, 2, none⟩), .int .i64 n.r, .bool true, .pointer (some ⟨gx, 2, none⟩), .int .i64 n.r, .func (.func 97) #[] #[.pointer (some ⟨BB, 0, none⟩)], .int .i64 x.1, undef, undef, undef, undef, undef, undef, undef, undef, undef, undef, undef, undef, undef, undef, undef, undef, undef, undef, undef, undef, undef, undef, undef, undef, undef, undef, undef, undef, undef, undef, undef, undef, undef], defers := [] }) ?assign ?body ?done ?stop
   case assign =>
    intro l x W K hK
    gi_wp2
    exact hK
   case body =>
    rintro l pre ⟨x, hxm⟩ W2 ⟨hst, hBB2, hng⟩ _
    have hx05' : 0 ≤ x ∧ x < 5 := by
     obtain ⟨xk, hxk, hxk5, _⟩ := (mem_loopsOf n.r 5 x).1 hxm
     omega
    have hx5 := hAt.2.2.2 x hxm
    have hrep2 : Calls Try.prog 92 #[.agg (NETC E), .agg #[.int .i64 n.p, .int .i64 n.h, .int .i64 n.r], .int .i64 x, .slice E.Ad E.D.length E.cd] W2 fun e w' =>
      e = .returned (.tuple #[spV (repV E.l0 E.l2 E.D n x).1, .int .i64 (repV E.l0 E.l2 E.D n x).2.1, .bool (repV E.l0 E.l2 E.D n x).2.2]) ∧ Below W2.heap.size W2 w' :=
     repaired_calls _ _ _ _ _ _ _ _ n x _ _ E.D W2 (Kd.C_below hE.r0 hst.env.hb) (Kd.C_below hE.r2 hst.env.hb) (Kd.R_reads' hst.env.due).2.2 hAt.2.1 (by have := hE.h2; have := hAt.2.2.1; omega) (by omega) hx5 (by rw [hE.hrow n.p hAt.2.1 hAt.2.2.1]; omega) (by rw [hE.hD]; omega) (by omega)
    have hnx3 : (repV E.l0 E.l2 E.D n x).2.2 = true → E.At (repV E.l0 E.l2 E.D n x).1 ∧ cntB (repV E.l0 E.l2 E.D n x).1.r + 1 = cntB n.r := fun h => hAt.next hxm h
    have hgood : goodV E.l0 E.l2 E.D E.S slack n x = ((repV E.l0 E.l2 E.D n x).2.2 && decide (slack ≤ (repV E.l0 E.l2 E.D n x).2.1) && (E.S (repV E.l0 E.l2 E.D n x).1).2.2 && decide (slack ≤ (E.S (repV E.l0 E.l2 E.D n x).1).2.1)) := rfl
    generalize hq2 : repV E.l0 E.l2 E.D n x = q at hrep2 hnx3 hgood
    obtain ⟨⟨y0, y1, y2⟩, ow2, can2⟩ := q
    simp only [spV_eq] at hrep2
    try dsimp only at hrep2 hnx3 hgood
    have HQ2 := Aside0.mk hq2
    have HST2 := Aside0.mk hst
    have NO : ∀ (a : Act) (W' : World), St93 E A w w.heap.size gq gd gf go gx slack n o v Ds W' → KB (fun k => k = E.m) W2 W' → goodV E.l0 E.l2 E.D E.S slack n x = false →
      ownPostG W1.heap.size (KeptAt BB) (fun (pre : List (LoopOf n.r)) W => St93 E A w w.heap.size gq gd gf go gx slack n o v Ds W ∧ BB < W.heap.size ∧ ∀ i ∈ pre.map (fun y : LoopOf n.r => y.1), goodV E.l0 E.l2 E.D E.S slack n i = false)
       (IX93 E A w gq gd gf go gx slack n o Ds)
       (pre ++ [(⟨x, hxm⟩ : LoopOf n.r)]) W2 .normal a W' := by
     intro a W' hs hk hg
     refine ⟨hk.from (fun k e => by omega), hk.block BB hBB2 (by have := hst1.kb.size; have := HST.out.1.kb.size; omega), hs, Nat.lt_of_lt_of_le hBB2 hk.size, ?_⟩
     intro i hi
     rw [List.map_append, List.mem_append] at hi
     rcases hi with hi | hi
     ·
      exact hng i hi
     ·
      simp only [List.map_cons, List.map_nil, List.mem_singleton] at hi
      rw [hi]
      exact hg
    have HNO := Aside0.mk NO
    have HNX3 := Aside0.mk hnx3
    have HG := Aside0.mk hgood
    have HNG := Aside0.mk hng
    have HLEN : Aside0 (o.length ≤ 5) := ⟨by have := hkW.2.2.2.2.2.2.2.2; omega⟩
    have hca0 : W2.cell? ⟨w.heap.size, 0, none⟩ = some (.slice E.A0 E.l0.length E.c0) := blk_cell hst.xn 0
    have hca1 : W2.cell? ⟨w.heap.size, 1, none⟩ = some (.slice E.A1 E.l1.length E.c1) := blk_cell hst.xn 1
    have hca2 : W2.cell? ⟨w.heap.size, 2, none⟩ = some (.slice E.A2 E.l2.length E.c2) := blk_cell hst.xn 2
    have hca3 : W2.cell? ⟨w.heap.size, 3, none⟩ = some (.int .i64 E.wp) := blk_cell hst.xn 3
    have hcb0 : W2.cell? ⟨gx, 0, none⟩ = some (.int .i64 n.p) := blk_cell hst.xx 0
    have hcb1 : W2.cell? ⟨gx, 1, none⟩ = some (.int .i64 n.h) := blk_cell hst.xx 1
    have hcb2 : W2.cell? ⟨gx, 2, none⟩ = some (.int .i64 n.r) := blk_cell hst.xx 2
    have hcd0 : W2.cell? ⟨gd, 0, none⟩ = some (.slice E.Ad E.D.length E.cd) := blk_cell hst.xd 0
    clear NO hnx3 hgood hng hst hq2 hx5 hAt hkW HST hst1 hc2 hz hzb
    gi_wp2
    refine ⟨trivial, (CallsIn.inRound l (callsIn_wide.2 hrep2)).mono ?_⟩
    rintro e W3 ⟨rfl, hb3⟩
    clear hrep2 hca0 hca1 hca2 hca3 hcb0 hcb1 hcb2 hcd0
    have hb4 := below_alloc hb3 (.cells #[.int .i64 y0, .int .i64 y1, .int .i64 y2] 123)
    have st4 := HST2.out.below hb4
    have BY := blk_new W3 (.cells #[.int .i64 y0, .int .i64 y1, .int .i64 y2] 123)
    have hcq4 : (W3.alloc (.cells #[.int .i64 y0, .int .i64 y1, .int .i64 y2] 123)).cell? ⟨gq, 0, none⟩ = some (.int .i64 slack) := blk_cell st4.xq 0
    have hcf4 : (W3.alloc (.cells #[.int .i64 y0, .int .i64 y1, .int .i64 y2] 123)).cell? ⟨gf, 0, none⟩ = some (SEARCHF E) := blk_cell st4.xf 0
    have ST4 := Aside0.mk st4
    have HB4 := Aside0.mk hb4
    have HBY := Aside0.mk BY
    clear st4 hb4 BY hb3
    cases can2 with
    | false =>
     gi_wp2
     exact HNO.out _ _ ST4.out (KB.of_below HB4.out _) (by rw [HG.out]; rfl)
    | true =>
     by_cases hos : ow2 < slack
     ·
      gi_wp2
      exact HNO.out _ _ ST4.out (KB.of_below HB4.out _) (by rw [HG.out]; simp; omega)
     ·
      gi_wp2
      have hnx4 := HNX3.out (by simp)
      have hsr := HIH.out ⟨y0, y1, y2⟩ hnx4.1 (by have := hnx4.2; show cntB y2 < _; omega) (fun k => A k ∨ k = go ∨ k = gx ∨ some k = v.ownBlock) _ ST4.out.env (ST4.out.lt hA)
      simp only [spV_eq] at hsr
      refine ⟨trivial, (CallsIn.inRound l (callsIn_wide.2 hsr)).mono ?_⟩
      rintro e W5 ⟨v2, rfl, hrow2, henv, hkb⟩
      obtain ⟨vA, vn, vc, rfl⟩ := R_shape hrow2
      clear hrow2
      have st5 := ST4.out.after henv hkb
      have k5 := (KB.of_below HB4.out (fun k => k = E.m)).trans hkb (fun k e => .inl e)
      have by5 := hkb.blk HBY.out (fun e => ST4.out.env.map.noCells HBY.out e)
      generalize E.S ⟨y0, y1, y2⟩ = S2 at HG ⊢
      obtain ⟨So, Ss, Sr⟩ := S2
      try dsimp only at HG
      clear hsr henv hkb hcf4 hcq4
      have hb6 := below_alloc (Below.refl W5.heap.size W5) (.cells #[.slice vA vn vc, .int .i64 Ss, .bool Sr] 97)
      have st6 := st5.below hb6
      have k6 := k5.then_below hb6
      have by6 := blk_below by5 hb6
      have bz6 := blk_new W5 (.cells #[.slice vA vn vc, .int .i64 Ss, .bool Sr] 97)
      have hcq6 : (W5.alloc (.cells #[.slice vA vn vc, .int .i64 Ss, .bool Sr] 97)).cell? ⟨gq, 0, none⟩ = some (.int .i64 slack) := blk_cell st6.xq 0
      have ST6 := Aside0.mk st6
      have K6 := Aside0.mk k6
      have BY6 := Aside0.mk by6
      clear st5 st6 k5 k6 by5 by6 bz6 hb6 HBY ST4 HB4
      cases Sr with
      | false =>
       gi_wp2
       exact HNO.out _ _ ST6.out K6.out (by rw [HG.out]; simp)
      | true =>
       by_cases hos2 : slack ≤ Ss
       ·
        gi_wp2
        have st6 := ST6.out
        have k6 := K6.out
        have by6 := BY6.out
        generalize W5.alloc (.cells #[.slice vA vn vc, .int .i64 Ss, .bool true] 97) = W6 at st6 k6 by6 ⊢
        generalize W3.heap.size = gy at by6 ⊢
        clear ST6 K6 BY6 hcq6
        obtain ⟨oA, on, oc, rfl⟩ := R_shape st6.row
        have hsz6 : ∀ k, W6.heap.size ≤ k → w.heap.size ≤ k ∧ k ≠ gq := fun k hk => ⟨Nat.le_trans st6.kb.size hk, fun e => by have := blk_lt st6.xq; omega⟩
        obtain ⟨v1, w1, hrun, hR1, hg1, hat1⟩ := int_append_run W6.drew (.slice oA on oc) o x E.w0.heap.size _ (Kd.R_drew st6.row) (Nat.le_trans HW0.out st6.kb.size) (by have := HLEN.out; omega) hsz6
        obtain ⟨pA, pn, pc, rfl⟩ := R_shape hR1
        have hg1' : W6.grownBy w1 (Value.slice oA on oc).ownBlock := ⟨hg1.os, hg1.tape, hg1.output, hg1.size, hg1.block⟩
        have hrun' : (Builtin.append_ #[47, 47] 47 #[.slice oA on oc, .slice (some ⟨W6.heap.size, 0, none⟩) 1 1]).run Try.prog (W6.drew.alloc (.cells #[.int .i64 x] 3)) = .ok (.slice pA pn pc) w1 := hrun
        have push := st6.push (n' := ⟨y0, y1, y2⟩) HW0.out HNE.out hR1 hg1' hat1
        dsimp only at push
        have bo6 := st6.xo
        have bx6 := st6.xx
        have bo1 := blk_grown bo6 hg1' (Kd.R_ne st6.row bo6 (by decide))
        have bx1 := blk_grown bx6 hg1' (Kd.R_ne st6.row bx6 (by decide))
        have by1 := blk_grown by6 hg1' (Kd.R_ne st6.row by6 (by decide))
        have nex : gx ≠ go := HNE.out.2.2.2.2.2.2.2.2.symm
        have ney : gy ≠ go := blk_ne by6 bo6 (by decide)
        have hKF : KeepsFrom W1.heap.size W2 ((((w1.setCell ⟨go, 0, none⟩ (.slice pA pn pc)).setCell ⟨gx, 0, none⟩ (.int .i64 y0)).setCell ⟨gx, 1, none⟩ (.int .i64 y1)).setCell ⟨gx, 2, none⟩ (.int .i64 y2)) := by
         refine ⟨by simpa using Nat.le_trans k6.size hg1'.size, fun k ob hB hk hc => ?_⟩
         have e6 : W6.heap[k]? = some ob := k6.blk hk (by omega)
         have e1 : w1.heap[k]? = some ob := (hg1'.block k (blk_lt e6) (fun e => by
          obtain ⟨cells, hcc⟩ := Kd.R_typed st6.row k e.symm
          rw [e6] at hcc
          injection hcc with hcc
          subst hcc
          cases hc)).trans e6
         have ng : k ≠ go := fun e => by
          subst e
          rw [bo1] at e1
          injection e1 with e1
          subst e1
          cases hc
         have nx : k ≠ gx := fun e => by
          subst e
          rw [bx1] at e1
          injection e1 with e1
          subst e1
          cases hc
         exact (Below.heap_setCell _ ⟨gx, 2, none⟩ _ k nx).trans ((Below.heap_setCell _ ⟨gx, 1, none⟩ _ k nx).trans ((Below.heap_setCell _ ⟨gx, 0, none⟩ _ k nx).trans ((Below.heap_setCell _ ⟨go, 0, none⟩ _ k ng).trans e1)))
        have hIx : IX93 E A w gq gd gf go gx slack n o Ds (.exit 2) (pre ++ [(⟨x, hxm⟩ : LoopOf n.r)]) ((((w1.setCell ⟨go, 0, none⟩ (.slice pA pn pc)).setCell ⟨gx, 0, none⟩ (.int .i64 y0)).setCell ⟨gx, 1, none⟩ (.int .i64 y1)).setCell ⟨gx, 2, none⟩ (.int .i64 y2)) := by
         refine ⟨pre, ⟨x, hxm⟩, .slice pA pn pc, rfl, rfl, HNG.out, ?_, ?_⟩
         ·
          rw [HG.out]
          simp
          omega
         ·
          show St93 E A w w.heap.size gq gd gf go gx slack (repV E.l0 E.l2 E.D n x).1 (o ++ [x]) _ Ds _
          rw [HQ2.out]
          exact push
        have HKF := Aside0.mk hKF
        have HIX := Aside0.mk hIx
        clear hKF hIx push HNO HNG HG HQ2 k6 hR1 hg1 hat1 hg1' hsz6 hnx4
        refine region10 (gx := gx) (go := go) (gy := gy) (x := 0) (oA := oA) (pA := pA) (on := on) (oc := oc) (pn := pn) (pc := pc) (xi := x) (y0 := y0) (y1 := y1) (y2 := y2) (n0 := n.p) (n1 := n.h) (n2 := n.r) rfl rfl rfl rfl rfl rfl rfl rfl (by kernel_rfl) ⟨rfl, rfl, rfl, rfl, rfl, fun h => (by cases h), fun h => (by cases h), fun h => (by cases h), fun h => (by cases h), fun h => (by cases h)⟩ bo6 by6 hrun' bo1 by1 bx1 nex ney (fun a' => ?_)
        clear bo6 by6 hrun' bo1 by1 bx1 bx6 hrun
        gi_wp2
        exact ⟨HKF.out, HIX.out⟩
       ·
        gi_wp2
        exact HNO.out _ _ ST6.out K6.out (by rw [HG.out]; simp; omega)
   case done =>
    rintro D2 xs W2 hD2 hSx ⟨hst, _, hng⟩ hK
    exfalso
    rw [hSx] at hng
    obtain ⟨i, hi⟩ := good_some E.l0 E.l1 E.l2 E.D n hAt.1 hz slack hkW.2.2.2.2.2.1 hkW.2.2.2.2.2.2.1
    have h1 := List.find?_some hi
    have h2 := hng i (List.mem_of_find?_eq_some hi)
    have h3 : goodV E.l0 E.l2 E.D E.S slack n i = true := h1
    rw [h3] at h2
    cases h2
   case stop =>
    rintro D2 c pre W2 hD2 hSp ⟨pre0, x, v1, rfl, rfl, hng, hgx, hst⟩ hK
    have hpre : (pre0 ++ [x]).map (·.1) <+: loopsOf n.r 5 := hSp
    have hfind := find_at (goodV E.l0 E.l2 E.D E.S slack n) (loopsOf n.r 5) (pre0.map (·.1)) x.1 (by simpa using hpre) hng hgx
    have hgx2 := hgx
    unfold goodV at hgx2
    simp only [Bool.and_eq_true, decide_eq_true_eq] at hgx2
    have hnx2 := hAt.next x.2 hgx2.1.1.1
    have hc0 : cntB n.r ≠ 0 := fun e => hz ((cnt_zero n.r hAt.1.1 hAt.1.2).1 e)
    obtain ⟨k', rfl⟩ : ∃ k', k = k' + 1 := ⟨k - 1, by have := hkW.2.2.2.2.1; omega⟩
    have hsame : sameV E.l0 E.l2 E.D E.S slack (k' + 1) n o = sameV E.l0 E.l2 E.D E.S slack k' (repV E.l0 E.l2 E.D n x.1).1 (o ++ [x.1]) := by
     conv => lhs; unfold sameV
     rw [if_neg hz, hfind]
    have hxx : W2.cell? ⟨gx, 2, none⟩ = some (.int .i64 (repV E.l0 E.l2 E.D n x.1).1.r) := blk_cell hst.xx 2
    have hDnew : D2 ∉ Ds := fun hD => by have := hDs1 D2 hD; omega
    have hlw := hkW
    have hLI : ∀ (t33 t34 t35 t36 t37 t38 : Value), LI93 E A w s first slack gq gd gf go gx q0 q1 q2 { tmps := fr93 E s first slack w.heap.size (w.heap.size + 1) gq gd gf go gx z15 z16 z22 z23 z24 z25 z26 z27 z28 z29 z30 z31 z32 t33 t34 t35 t36 t37 t38, defers := { target := .collected D2, args := #[] } :: Ds.map fun D => { target := .collected D, args := #[] } } W2 := by
     intro t33 t34 t35 t36 t37 t38
     refine ⟨_, o ++ [x.1], v1, k', D2 :: Ds, z15, z16, z22, z23, z24, z25, z26, z27, z28, z29, z30, z31, z32, t33, t34, t35, t36, t37, t38, rfl, ⟨⟨hst.env, hst.xn, hst.xq, hst.xd, hst.xf, hst.xo, hst.xx, hst.row, hst.kb, hst.lo, ?_⟩, ?_, hnx2.1, by omega, ?_, hgx2.1.2, hgx2.2, ?_, ?_⟩⟩
     ·
      intro D hD
      rcases List.mem_cons.1 hD with rfl | hD
      ·
       exact ⟨hK, by omega⟩
      ·
       exact hst.marks D hD
     ·
      exact List.nodup_cons.2 ⟨hDnew, hlw.2.1⟩
     ·
      have := hlw.2.2.2.2.1
      omega
     ·
      rw [← hsame]
      exact hlw.2.2.2.2.2.2.2.1
     ·
      have := hlw.2.2.2.2.2.2.2.2
      simp
      omega
    have HLI := Aside0.mk hLI
    have HMU : Aside0 (mu93 gx W2 < mu93 gx W) := ⟨by rw [mu93_eq hxx, mu93_eq hc2]; omega⟩
    clear hLI hng hgx2 hgx hkW hlw hfind hsame hDs1
    gi_wp2
    exact ⟨HLI.out _ _ _ _ _ _, HMU.out⟩
end Go.Proofs.Ytipphcjgdebecaa.PA
namespace Go.Proofs.Ytipphcjgdebecaa.PA
open Go.RowKit Go.Proofs.YtipphcjgdebecaaW.PrintWords Go.Proofs.YtipphcjgdebecaaW.PrintLast Go.Proofs.YtipphcjgdebecaaW.PrintMore
attribute [local go_sem] max2_int min2_int max_two min_two max_three min_three max_four min_four
set_option linter.unusedVariables false
set_option linter.unusedSimpArgs false
set_option maxRecDepth 100000 in
theorem put_tail {E : OE} {A : Nat → Prop} {W : World} {s : Sp} (h : EnvInv E A W) (bm : E.w0.heap.size ≤ E.m) (hs : OkS s) (v : Value) (hv : E.Row A W v (E.S s).1) :
  ∃ w9, (Instr.mapUpdate 120 (.map (some E.m)) (.agg #[.int .i64 s.p, .int .i64 s.h, .int .i64 s.r]) (.agg #[v, .int .i64 (E.S s).2.1, .bool (E.S s).2.2])).run Try.prog W = .ok () w9 ∧ EnvInv E A w9 ∧ E.Row A w9 v (E.S s).1 ∧ KB (fun k => k = E.m) W w9 := by
 obtain ⟨w9, hrun, hg, hm⟩ := h.map.update (t := 120) (el := 97) Try.underlying120 s (.agg #[v, .int .i64 (E.S s).2.1, .bool (E.S s).2.2])
 exact ⟨w9, hrun, h.put hg hs rfl hv bm hm, Kd.R_grown hv hg (fun k hk e => hk.1 (by injection e)), (KB.of_grown hg).mono (fun k e => by injection e with e; exact e.symm)⟩
theorem allocs3 (w : World) (o1 o2 o3 : Obj) : ∃ w4, ((w.alloc o1).alloc o2).alloc o3 = w4 ∧ w4.heap[w.heap.size]? = some o1 ∧ w4.heap[w.heap.size + 1]? = some o2 ∧ w4.heap[w.heap.size + 1 + 1]? = some o3 ∧ w4.heap.size = w.heap.size + 3 ∧ Below w.heap.size w w4 := by
 have h2 := blk_new (w.alloc o1) o2
 have h3 := blk_new ((w.alloc o1).alloc o2) o3
 rw [World.size_alloc] at h2
 rw [World.size_alloc, World.size_alloc] at h3
 exact ⟨_, rfl, blk_alloc (blk_alloc (blk_new w o1) o2) o3, blk_alloc h2 o3, h3, by simp, below_alloc (below_alloc (below_alloc (Below.refl _ _) _) _) _⟩
set_option maxRecDepth 100000 in
set_option maxHeartbeats 8000000 in
theorem search_step (E : OE) (hE : E.Fit) (s : Sp) (hs : E.At s) (IH : ∀ s', E.At s' → cntB s'.r < cntB s.r → SearchC E s') : SearchC E s := by
 intro A w hinv hA
 have hu97 := Try.underlying97
 have hu99 := Try.underlying99
 have hu123 := Try.underlying123
 have hu26 := Try.underlying26
 have hmf : ∀ (fn : Fn) (first cap : Array Value) (w : World), (Instr.makeFunc fn first cap).run Try.prog w = .ok (.func fn first cap) w := fun _ _ _ _ => rfl
 have HB := Aside0.mk (Below.refl w.heap.size w)
 have HI := Aside0.mk hinv
 have HIH := Aside0.mk IH
 have HE := Aside0.mk hE
 have HS := Aside0.mk hs
 have BKBn := Aside0.mk hinv.xn
 have BKBk := Aside0.mk hinv.xk
 have BKBd := Aside0.mk hinv.xd
 have BKBs := Aside0.mk hinv.xs
 have hSe := bestV_eq E.l0 E.l1 E.l2 E.D s hs.1
 have HSE := Aside0.mk hSe
 clear IH hinv hE hs hSe
 unfold spV
 by_cases hz : s.r = 0
 ·
  have hzb : (s.r == 0) = true := by simp [hz]
  have hS : E.S s = ([], (E.l1.length : Int), true) := by
   unfold OE.S
   rw [HSE.out]
   unfold stepV
   rw [if_pos hz]
  rw [hS]
  clear HSE hS
  go_enter Try.func90, Try.ntmps90
  go_wp2_with ((first | ((with_reducible refine gate_dst (N := 5) rfl ?_); refine box_event ?hg (N := 5) ?hd (cs := #[.int .i64 s.p, .int .i64 s.h, .int .i64 s.r]) (t := 123) ?hr ?_; (case hd => rfl); (case hg => rfl); (case hr => first | (go_simp; done) | (go_simp; rfl)); intro gs hg_gs w2 hbox hb; have BKgs := Aside0.mk hbox; have n_BKBn := Aside0.mk (blk_below BKBn.out hb); clear BKBn; have BKBn := n_BKBn; clear n_BKBn; have n_BKBk := Aside0.mk (blk_below BKBk.out hb); clear BKBk; have BKBk := n_BKBk; clear n_BKBk; have n_BKBd := Aside0.mk (blk_below BKBd.out hb); clear BKBd; have BKBd := n_BKBd; clear n_BKBd; have n_BKBs := Aside0.mk (blk_below BKBs.out hb); clear BKBs; have BKBs := n_BKBs; clear n_BKBs; have n_HB := Aside0.mk (below_step HB.out hb); have GEgs : w.heap.size ≤ gs := (by rw [hg_gs]; exact HB.out.size); clear HB; have HB := n_HB; clear n_HB; clear hbox hb hg_gs) | ((with_reducible refine gate_dst (N := 6) rfl ?_); refine box_event ?hg (N := 6) ?hd (cs := #[.slice none 0 0, .int .i64 0, .bool false]) (t := 97) ?hr ?_; (case hd => rfl); (case hg => rfl); (case hr => first | (go_simp; done) | (go_simp; rfl)); intro gr hg_gr w3 hbox hb; have BKgr := Aside0.mk hbox; have n_BKBn := Aside0.mk (blk_below BKBn.out hb); clear BKBn; have BKBn := n_BKBn; clear n_BKBn; have n_BKBk := Aside0.mk (blk_below BKBk.out hb); clear BKBk; have BKBk := n_BKBk; clear n_BKBk; have n_BKBd := Aside0.mk (blk_below BKBd.out hb); clear BKBd; have BKBd := n_BKBd; clear n_BKBd; have n_BKBs := Aside0.mk (blk_below BKBs.out hb); clear BKBs; have BKBs := n_BKBs; clear n_BKBs; have n_BKgs := Aside0.mk (blk_below BKgs.out hb); clear BKgs; have BKgs := n_BKgs; clear n_BKgs; have n_HB := Aside0.mk (below_step HB.out hb); have GEgr : w.heap.size ≤ gr := (by rw [hg_gr]; exact HB.out.size); clear HB; have HB := n_HB; clear n_HB; clear hbox hb hg_gr; have hfgs := blk_frozen BKgs.out; have hcgs_0 : w3.cell? ⟨gs, 0, none⟩ = some (.int .i64 s.p) := (blk_cell BKgs.out 0).trans rfl; have hcgs_1 : w3.cell? ⟨gs, 1, none⟩ = some (.int .i64 s.h) := (blk_cell BKgs.out 1).trans rfl; have hcgs_2 : w3.cell? ⟨gs, 2, none⟩ = some (.int .i64 s.r) := (blk_cell BKgs.out 2).trans rfl; have hfgr := blk_frozen BKgr.out; have hcgr_0 : w3.cell? ⟨gr, 0, none⟩ = some (.slice none 0 0) := (blk_cell BKgr.out 0).trans rfl; have hcgr_1 : w3.cell? ⟨gr, 1, none⟩ = some (.int .i64 0) := (blk_cell BKgr.out 1).trans rfl; have hcgr_2 : w3.cell? ⟨gr, 2, none⟩ = some (.bool false) := (blk_cell BKgr.out 2).trans rfl; have hfBn := blk_frozen BKBn.out; have hcBn_0 : w3.cell? ⟨E.Bn, 0, none⟩ = some (.slice E.A0 E.l0.length E.c0) := (blk_cell BKBn.out 0).trans rfl; have hcBn_1 : w3.cell? ⟨E.Bn, 1, none⟩ = some (.slice E.A1 E.l1.length E.c1) := (blk_cell BKBn.out 1).trans rfl; have hcBn_2 : w3.cell? ⟨E.Bn, 2, none⟩ = some (.slice E.A2 E.l2.length E.c2) := (blk_cell BKBn.out 2).trans rfl; have hcBn_3 : w3.cell? ⟨E.Bn, 3, none⟩ = some (.int .i64 E.wp) := (blk_cell BKBn.out 3).trans rfl; have hfBk := blk_frozen BKBk.out; have hcBk_0 : w3.cell? ⟨E.Bk, 0, none⟩ = some (.map (some E.m)) := (blk_cell BKBk.out 0).trans rfl; have hfBd := blk_frozen BKBd.out; have hcBd_0 : w3.cell? ⟨E.Bd, 0, none⟩ = some (.slice E.Ad E.D.length E.cd) := (blk_cell BKBd.out 0).trans rfl; have hfBs := blk_frozen BKBs.out; have hcBs_0 : w3.cell? ⟨E.Bs, 0, none⟩ = some (.func (.func 90) #[] #[.pointer (some ⟨E.Bn, 0, none⟩), .pointer (some ⟨E.Bk, 0, none⟩), .pointer (some ⟨E.Bd, 0, none⟩), .pointer (some ⟨E.Bs, 0, none⟩)]) := (blk_cell BKBs.out 0).trans rfl)))
  refine bodyPost_ret (results_cell_row rfl _ _ gr 97 _ (0, 0) _ rfl (by first | exact blk_drew (blk_set (blk_set (blk_set BKgr.out 0 _) 1 _) 2 _) | exact blk_set (blk_set (blk_set BKgr.out 0 _) 1 _) 2 _) hu97 rfl (by kernel_rfl)) rfl ?_
  have hfin := below_set (j := 2) (v := .bool true) (below_set (j := 1) (v := .int .i64 E.l1.length) (below_set (j := 0) (v := .slice none 0 0) HB.out GEgr) GEgr) GEgr
  exact ⟨_, rfl, Kd.R_nil _ _ _ _ _, HI.out.step (KB.of_below hfin _), KB.of_below hfin _⟩
 ·
  have hzb : (s.r == 0) = false := by simp [hz]
  have hlk := HI.out.map
  have HLT := Aside0.mk hlk.lt
  rcases hlk.looks (t := 120) (el := 97) Try.underlying120 zero97 s with ⟨u, ⟨hok, v, hu, hrow⟩, hl⟩ | hl
  ·
   obtain ⟨vA, vn, vc, rfl⟩ := R_shape hrow
   generalize hSs : E.S s = S at hu hrow ⊢
   obtain ⟨So, Ss, Sr⟩ := S
   try dsimp only at hu hrow
   subst hu
   have HL : Aside0 (∀ W' : World, W'.heap[E.m]? = w.heap[E.m]? → (Instr.lookup 120 (.map (some E.m)) (.agg #[.int .i64 s.p, .int .i64 s.h, .int .i64 s.r]) true).run Try.prog W' = .ok (.tuple #[.agg #[.slice vA vn vc, .int .i64 Ss, .bool Sr], .bool true]) W') := ⟨hl⟩
   have HROW := Aside0.mk hrow
   clear hl hlk hrow hSs
   go_enter Try.func90, Try.ntmps90
   go_wp2_with (first | ((with_reducible refine gate_dst (N := 5) rfl ?_); refine box_event ?hg (N := 5) ?hd (cs := #[.int .i64 s.p, .int .i64 s.h, .int .i64 s.r]) (t := 123) ?hr ?_; (case hd => rfl); (case hg => rfl); (case hr => first | (go_simp; done) | (go_simp; rfl)); intro gs hg_gs w2 hbox hb; have BKgs := Aside0.mk hbox; have n_BKBn := Aside0.mk (blk_below BKBn.out hb); clear BKBn; have BKBn := n_BKBn; clear n_BKBn; have n_BKBk := Aside0.mk (blk_below BKBk.out hb); clear BKBk; have BKBk := n_BKBk; clear n_BKBk; have n_BKBd := Aside0.mk (blk_below BKBd.out hb); clear BKBd; have BKBd := n_BKBd; clear n_BKBd; have n_BKBs := Aside0.mk (blk_below BKBs.out hb); clear BKBs; have BKBs := n_BKBs; clear n_BKBs; have n_HB := Aside0.mk (below_step HB.out hb); have GEgs : w.heap.size ≤ gs := (by rw [hg_gs]; exact HB.out.size); clear HB; have HB := n_HB; clear n_HB; clear hbox hb hg_gs) | ((with_reducible refine gate_dst (N := 6) rfl ?_); refine box_event ?hg (N := 6) ?hd (cs := #[.slice none 0 0, .int .i64 0, .bool false]) (t := 97) ?hr ?_; (case hd => rfl); (case hg => rfl); (case hr => first | (go_simp; done) | (go_simp; rfl)); intro gr hg_gr w3 hbox hb; have BKgr := Aside0.mk hbox; have n_BKBn := Aside0.mk (blk_below BKBn.out hb); clear BKBn; have BKBn := n_BKBn; clear n_BKBn; have n_BKBk := Aside0.mk (blk_below BKBk.out hb); clear BKBk; have BKBk := n_BKBk; clear n_BKBk; have n_BKBd := Aside0.mk (blk_below BKBd.out hb); clear BKBd; have BKBd := n_BKBd; clear n_BKBd; have n_BKBs := Aside0.mk (blk_below BKBs.out hb); clear BKBs; have BKBs := n_BKBs; clear n_BKBs; have n_BKgs := Aside0.mk (blk_below BKgs.out hb); clear BKgs; have BKgs := n_BKgs; clear n_BKgs; have n_HB := Aside0.mk (below_step HB.out hb); have GEgr : w.heap.size ≤ gr := (by rw [hg_gr]; exact HB.out.size); clear HB; have HB := n_HB; clear n_HB; clear hbox hb hg_gr; have hfgs := blk_frozen BKgs.out; have hcgs_0 : w3.cell? ⟨gs, 0, none⟩ = some (.int .i64 s.p) := (blk_cell BKgs.out 0).trans rfl; have hcgs_1 : w3.cell? ⟨gs, 1, none⟩ = some (.int .i64 s.h) := (blk_cell BKgs.out 1).trans rfl; have hcgs_2 : w3.cell? ⟨gs, 2, none⟩ = some (.int .i64 s.r) := (blk_cell BKgs.out 2).trans rfl; have hfgr := blk_frozen BKgr.out; have hcgr_0 : w3.cell? ⟨gr, 0, none⟩ = some (.slice none 0 0) := (blk_cell BKgr.out 0).trans rfl; have hcgr_1 : w3.cell? ⟨gr, 1, none⟩ = some (.int .i64 0) := (blk_cell BKgr.out 1).trans rfl; have hcgr_2 : w3.cell? ⟨gr, 2, none⟩ = some (.bool false) := (blk_cell BKgr.out 2).trans rfl; have hfBn := blk_frozen BKBn.out; have hcBn_0 : w3.cell? ⟨E.Bn, 0, none⟩ = some (.slice E.A0 E.l0.length E.c0) := (blk_cell BKBn.out 0).trans rfl; have hcBn_1 : w3.cell? ⟨E.Bn, 1, none⟩ = some (.slice E.A1 E.l1.length E.c1) := (blk_cell BKBn.out 1).trans rfl; have hcBn_2 : w3.cell? ⟨E.Bn, 2, none⟩ = some (.slice E.A2 E.l2.length E.c2) := (blk_cell BKBn.out 2).trans rfl; have hcBn_3 : w3.cell? ⟨E.Bn, 3, none⟩ = some (.int .i64 E.wp) := (blk_cell BKBn.out 3).trans rfl; have hfBk := blk_frozen BKBk.out; have hcBk_0 : w3.cell? ⟨E.Bk, 0, none⟩ = some (.map (some E.m)) := (blk_cell BKBk.out 0).trans rfl; have hfBd := blk_frozen BKBd.out; have hcBd_0 : w3.cell? ⟨E.Bd, 0, none⟩ = some (.slice E.Ad E.D.length E.cd) := (blk_cell BKBd.out 0).trans rfl; have hfBs := blk_frozen BKBs.out; have hcBs_0 : w3.cell? ⟨E.Bs, 0, none⟩ = some (.func (.func 90) #[] #[.pointer (some ⟨E.Bn, 0, none⟩), .pointer (some ⟨E.Bk, 0, none⟩), .pointer (some ⟨E.Bd, 0, none⟩), .pointer (some ⟨E.Bs, 0, none⟩)]) := (blk_cell BKBs.out 0).trans rfl; have hl3 := HL.out w3 (HB.out.block _ HLT.out))
            | ((with_reducible refine gate_dst (N := 7) rfl ?_); refine box_event ?hg (N := 7) ?hd (cs := #[.slice none 0 0, .int .i64 0, .bool false]) (t := 97) ?hr ?_; (case hd => rfl); (case hg => rfl); (case hr => first | (go_simp; done) | (go_simp; rfl)); intro gk hg_gk w4 hbox hb; have BKgk := Aside0.mk hbox; have ne_gr_gk : gr ≠ gk := (by rw [hg_gk]; exact Nat.ne_of_lt (blk_lt BKgr.out)); have n_BKgs := Aside0.mk (blk_below BKgs.out hb); clear BKgs; have BKgs := n_BKgs; clear n_BKgs; have n_BKgr := Aside0.mk (blk_below BKgr.out hb); clear BKgr; have BKgr := n_BKgr; clear n_BKgr; have n_HB := Aside0.mk (below_step HB.out hb); have GEgk : w.heap.size ≤ gk := (by rw [hg_gk]; exact HB.out.size); clear HB; have HB := n_HB; clear n_HB; clear hbox hb hg_gk; have hfgk := blk_frozen BKgk.out; have hcgk_0 : w4.cell? ⟨gk, 0, none⟩ = some (.slice none 0 0) := (blk_cell BKgk.out 0).trans rfl; have hcgk_1 : w4.cell? ⟨gk, 1, none⟩ = some (.int .i64 0) := (blk_cell BKgk.out 1).trans rfl; have hcgk_2 : w4.cell? ⟨gk, 2, none⟩ = some (.bool false) := (blk_cell BKgk.out 2).trans rfl; have hfgr := blk_frozen BKgr.out; have hcgr_0 : w4.cell? ⟨gr, 0, none⟩ = some (.slice none 0 0) := (blk_cell BKgr.out 0).trans rfl; have hcgr_1 : w4.cell? ⟨gr, 1, none⟩ = some (.int .i64 0) := (blk_cell BKgr.out 1).trans rfl; have hcgr_2 : w4.cell? ⟨gr, 2, none⟩ = some (.bool false) := (blk_cell BKgr.out 2).trans rfl))
   have hba := below_set (j := 2) (v := .bool Sr) (below_set (j := 1) (v := .int .i64 Ss) (below_set (j := 0) (v := .slice vA vn vc) HB.out GEgk) GEgk) GEgk
   have hbb := below_set (j := 2) (v := .bool Sr) (below_set (j := 1) (v := .int .i64 Ss) (below_set (j := 0) (v := .slice vA vn vc) hba GEgr) GEgr) GEgr
   refine bodyPost_ret (results_cell_row rfl _ _ gr 97 _ (0, 0) _ rfl (blk_set (blk_set (blk_set (blk_far (blk_far (blk_far BKgr.out (p := ⟨gk, 0, none⟩) ne_gr_gk _) (p := ⟨gk, 1, none⟩) ne_gr_gk _) (p := ⟨gk, 2, none⟩) ne_gr_gk _) 0 _) 1 _) 2 _) hu97 rfl (by kernel_rfl)) rfl ?_
   exact ⟨_, rfl, Kd.R_below HROW.out hbb, HI.out.step (KB.of_below hbb _), KB.of_below hbb _⟩
  ·
   have HL : Aside0 (∀ W' : World, W'.heap[E.m]? = w.heap[E.m]? → (Instr.lookup 120 (.map (some E.m)) (.agg #[.int .i64 s.p, .int .i64 s.h, .int .i64 s.r]) true).run Try.prog W' = .ok (.tuple #[.agg #[.slice none 0 0, .int .i64 0, .bool false], .bool false]) W') := ⟨hl⟩
   have hmm := @run_makeMap Try.prog
   clear hl hlk
   go_enter Try.func90, Try.ntmps90
   go_wp2_with (first | ((with_reducible refine gate_dst (N := 5) rfl ?_); refine box_event ?hg (N := 5) ?hd (cs := #[.int .i64 s.p, .int .i64 s.h, .int .i64 s.r]) (t := 123) ?hr ?_; (case hd => rfl); (case hg => rfl); (case hr => first | (go_simp; done) | (go_simp; rfl)); intro gs hg_gs w2 hbox hb; have BKgs := Aside0.mk hbox; have n_BKBn := Aside0.mk (blk_below BKBn.out hb); clear BKBn; have BKBn := n_BKBn; clear n_BKBn; have n_BKBk := Aside0.mk (blk_below BKBk.out hb); clear BKBk; have BKBk := n_BKBk; clear n_BKBk; have n_BKBd := Aside0.mk (blk_below BKBd.out hb); clear BKBd; have BKBd := n_BKBd; clear n_BKBd; have n_BKBs := Aside0.mk (blk_below BKBs.out hb); clear BKBs; have BKBs := n_BKBs; clear n_BKBs; have n_HB := Aside0.mk (below_step HB.out hb); have GEgs : w.heap.size ≤ gs := (by rw [hg_gs]; exact HB.out.size); clear HB; have HB := n_HB; clear n_HB; clear hbox hb hg_gs) | ((with_reducible refine gate_dst (N := 6) rfl ?_); refine box_event ?hg (N := 6) ?hd (cs := #[.slice none 0 0, .int .i64 0, .bool false]) (t := 97) ?hr ?_; (case hd => rfl); (case hg => rfl); (case hr => first | (go_simp; done) | (go_simp; rfl)); intro gr hg_gr w3 hbox hb; have BKgr := Aside0.mk hbox; have n_BKBn := Aside0.mk (blk_below BKBn.out hb); clear BKBn; have BKBn := n_BKBn; clear n_BKBn; have n_BKBk := Aside0.mk (blk_below BKBk.out hb); clear BKBk; have BKBk := n_BKBk; clear n_BKBk; have n_BKBd := Aside0.mk (blk_below BKBd.out hb); clear BKBd; have BKBd := n_BKBd; clear n_BKBd; have n_BKBs := Aside0.mk (blk_below BKBs.out hb); clear BKBs; have BKBs := n_BKBs; clear n_BKBs; have n_BKgs := Aside0.mk (blk_below BKgs.out hb); clear BKgs; have BKgs := n_BKgs; clear n_BKgs; have n_HB := Aside0.mk (below_step HB.out hb); have GEgr : w.heap.size ≤ gr := (by rw [hg_gr]; exact HB.out.size); clear HB; have HB := n_HB; clear n_HB; clear hbox hb hg_gr; have hfgs := blk_frozen BKgs.out; have hcgs_0 : w3.cell? ⟨gs, 0, none⟩ = some (.int .i64 s.p) := (blk_cell BKgs.out 0).trans rfl; have hcgs_1 : w3.cell? ⟨gs, 1, none⟩ = some (.int .i64 s.h) := (blk_cell BKgs.out 1).trans rfl; have hcgs_2 : w3.cell? ⟨gs, 2, none⟩ = some (.int .i64 s.r) := (blk_cell BKgs.out 2).trans rfl; have hfgr := blk_frozen BKgr.out; have hcgr_0 : w3.cell? ⟨gr, 0, none⟩ = some (.slice none 0 0) := (blk_cell BKgr.out 0).trans rfl; have hcgr_1 : w3.cell? ⟨gr, 1, none⟩ = some (.int .i64 0) := (blk_cell BKgr.out 1).trans rfl; have hcgr_2 : w3.cell? ⟨gr, 2, none⟩ = some (.bool false) := (blk_cell BKgr.out 2).trans rfl; have hfBn := blk_frozen BKBn.out; have hcBn_0 : w3.cell? ⟨E.Bn, 0, none⟩ = some (.slice E.A0 E.l0.length E.c0) := (blk_cell BKBn.out 0).trans rfl; have hcBn_1 : w3.cell? ⟨E.Bn, 1, none⟩ = some (.slice E.A1 E.l1.length E.c1) := (blk_cell BKBn.out 1).trans rfl; have hcBn_2 : w3.cell? ⟨E.Bn, 2, none⟩ = some (.slice E.A2 E.l2.length E.c2) := (blk_cell BKBn.out 2).trans rfl; have hcBn_3 : w3.cell? ⟨E.Bn, 3, none⟩ = some (.int .i64 E.wp) := (blk_cell BKBn.out 3).trans rfl; have hfBk := blk_frozen BKBk.out; have hcBk_0 : w3.cell? ⟨E.Bk, 0, none⟩ = some (.map (some E.m)) := (blk_cell BKBk.out 0).trans rfl; have hfBd := blk_frozen BKBd.out; have hcBd_0 : w3.cell? ⟨E.Bd, 0, none⟩ = some (.slice E.Ad E.D.length E.cd) := (blk_cell BKBd.out 0).trans rfl; have hfBs := blk_frozen BKBs.out; have hcBs_0 : w3.cell? ⟨E.Bs, 0, none⟩ = some (.func (.func 90) #[] #[.pointer (some ⟨E.Bn, 0, none⟩), .pointer (some ⟨E.Bk, 0, none⟩), .pointer (some ⟨E.Bd, 0, none⟩), .pointer (some ⟨E.Bs, 0, none⟩)]) := (blk_cell BKBs.out 0).trans rfl; have hl3 := HL.out w3 (HB.out.block _ HLT.out); have hraw := blk_alloc (blk_alloc (blk_alloc BKgs.out (.cells #[.slice none 0 0, .int .i64 0, .bool false] 97)) (.map #[] 0)) (.cells #[.map (some (w3.heap.size + 1))] 125); have hrc := blk_cell hraw 2; clear hraw; simp only [List.getElem?_toArray, List.getElem?_cons_succ, List.getElem?_cons_zero] at hrc)
            | (go_at_call 76; obtain ⟨w5, hw5, b7, bm, bw, hsz5, hb5⟩ := allocs3 w3 (.cells #[.slice none 0 0, .int .i64 0, .bool false] 97) (.map #[] 0) (.cells #[.map (some (w3.heap.size + 1))] 125); rw [hw5]; clear hw5 hrc hl3; refine (loops_calls s.r w5).mono ?_; rintro e w6 ⟨BB, rfl, hBB, hge, hb6⟩))
   have hbw6 : Below w.heap.size w w6 := below_step (below_step HB.out hb5) hb6
   have xgs6 := blk_below (blk_below BKgs.out hb5) hb6
   have xgr6 := blk_below (blk_below BKgr.out hb5) hb6
   have xw6 := blk_below bw hb6
   have xm6 := blk_below bm hb6
   have lgr := blk_lt BKgr.out
   have l3 := HB.out.size
   have lE := HLT.out
   have lw0 := HI.out.hb.size
   have nsr : gs ≠ gr := blk_ne BKgs.out BKgr.out (by decide)
   have hinv6 : Inv91 E s gs (w3.heap.size + 1 + 1) (w3.heap.size + 1) (fun k => A k ∨ k = gr) w6 := by
    refine ⟨(HI.out.imp (A' := fun k => A k ∨ k = gr) (fun k hk => ?_)).step (KB.of_below hbw6 _), ?_, ?_, ?_, xgs6, xw6, ⟨#[], 0, [], xm6, rfl, by simp, fun i k e h _ => by simp at h, fun k hk => hk.elim⟩, by omega, by omega⟩
    ·
     rcases hk with hk | hk
     ·
      exact ⟨HI.out.lo k hk, .inl hk⟩
     ·
      exact ⟨by omega, .inr (by omega)⟩
    ·
     rintro (hk | hk)
     ·
      have := hA _ hk
      omega
     ·
      exact nsr hk
    ·
     rintro (hk | hk)
     ·
      have := hA _ hk
      omega
     ·
      omega
    ·
     rintro (hk | hk)
     ·
      have := hA _ hk
      omega
     ·
      omega
   have l6 : w3.heap.size + 3 ≤ w6.heap.size := by have := hb6.size; omega
   have lBB := blk_lt hBB
   have hA6 : ∀ k, (A k ∨ k = gr) → k < w6.heap.size := fun k hk => by
    rcases hk with hk | hk
    ·
     have := hA k hk
     omega
    ·
     omega
   have hcall := greatest91_calls (p := fun x => x ∈ loopsOf s.r 5) (gf := 97) (lb := #[.pointer (some ⟨BB, 0, none⟩)]) (enters_of Try.func97 (by kernel_rfl) rfl) (Bn := BB) (w := w6) lBB (fun n hn => loops_stops n hn s.r HS.out.1.1 BB w6 hBB) (loopsOf s.r 5) (fun xs h => h)
    (Inv91.held (E := E) (s := s) (gs := gs) (gw := w3.heap.size + 1 + 1) (mw := w3.heap.size + 1) (B := w6.heap.size) (by omega) (by omega) (by omega)) (fun k => k = E.m ∨ k = w3.heap.size + 1) (fun k hk => by omega)
    (fun k => A k ∨ k = gr) (.pointer (some ⟨E.Bn, 0, none⟩)) (.pointer (some ⟨gs, 0, none⟩)) (.pointer (some ⟨E.Bd, 0, none⟩)) (.pointer (some ⟨E.Bs, 0, none⟩)) (.pointer (some ⟨w3.heap.size + 1 + 1, 0, none⟩)) (ofV E.l0 E.l2 E.D E.S s)
    (fun A' W' x hx hA' hi' => of91_calls E HE.out s HS.out gs _ _ HIH.out x hx A' W' hi' hA') hinv6 hA6
   refine hcall.mono ?_
   rintro e w7 ⟨rfl, i7, k7⟩
   have hg7 : w6.heap.size ≤ w7.heap.size := k7.size
   clear hcall hinv6 xgs6 xw6 xm6
   generalize hgm : g1 (ofV E.l0 E.l2 E.D E.S s) (loopsOf s.r 5) = g
   obtain ⟨ga, gb, gf⟩ := g
   try dsimp only
   have xgr7 := k7.blk xgr6 (by rintro (hk | hk) <;> omega)
   have hb8 := below_alloc (Below.refl w7.heap.size w7) (.cells #[.slice none 0 0, .int .i64 gb, .bool gf] 97)
   have env8 : EnvInv E (fun k => A k ∨ k = gr ∨ k = w7.heap.size) (w7.alloc (.cells #[.slice none 0 0, .int .i64 gb, .bool gf] 97)) := by
    refine (i7.env.imp (fun k hk => ?_)).step (KB.of_below hb8 _)
    have := i7.env.hb.size
    rcases hk with hk | hk | hk
    ·
     exact ⟨HI.out.lo k hk, .inl (.inl hk)⟩
    ·
     exact ⟨by omega, .inl (.inr hk)⟩
    ·
     exact ⟨by omega, .inr (by omega)⟩
   have xgs8 := blk_below i7.xs hb8
   have xgr8 := blk_below xgr7 hb8
   have xt8 := blk_new w7 (.cells #[.slice none 0 0, .int .i64 gb, .bool gf] 97)
   have k67 : KB (fun k => k = E.m) w w7 := (KB.of_below hbw6 (fun k => k = E.m)).trans k7 (fun k hk => by
    rcases hk with hk | hk
    ·
     exact .inl hk
    ·
     exact .inr (by omega))
   have k8 := k67.then_below hb8
   have nrt : gr ≠ w7.heap.size := by omega
   have hS : E.S s = (if gf = true then sameV E.l0 E.l2 E.D E.S gb 5 (repV E.l0 E.l2 E.D s ga).1 [ga] else [], gb, gf) := by
    have h := HSE.out
    unfold stepV at h
    rw [if_neg hz] at h
    have hgm' : g1 (ofV E.l0 E.l2 E.D (bestV E.l0 E.l1 E.l2 E.D) s) (loopsOf s.r 5) = (ga, gb, gf) := hgm
    rw [hgm'] at h
    exact h
   have c8k : (w7.alloc (.cells #[.slice none 0 0, .int .i64 gb, .bool gf] 97)).cell? ⟨E.Bk, 0, none⟩ = some (.map (some E.m)) := blk_cell env8.xk 0
   have c8s0 : (w7.alloc (.cells #[.slice none 0 0, .int .i64 gb, .bool gf] 97)).cell? ⟨gs, 0, none⟩ = some (.int .i64 s.p) := blk_cell xgs8 0
   have c8s1 : (w7.alloc (.cells #[.slice none 0 0, .int .i64 gb, .bool gf] 97)).cell? ⟨gs, 1, none⟩ = some (.int .i64 s.h) := blk_cell xgs8 1
   have c8s2 : (w7.alloc (.cells #[.slice none 0 0, .int .i64 gb, .bool gf] 97)).cell? ⟨gs, 2, none⟩ = some (.int .i64 s.r) := blk_cell xgs8 2
   cases gf with
   | false =>
    simp only [Bool.false_eq_true, if_false] at hS
    have hpt := put_tail env8 HE.out.bm HS.out.1 (.slice none 0 0) (by rw [hS]; exact Kd.R_nil _ _ _ _ _)
    rw [hS] at hpt
    obtain ⟨w9, hrun, env9, row9, k9⟩ := hpt
    try dsimp only at hrun
    have nm : ∀ {g : Nat} {cs : Array Value} {t : TypeId}, (w7.alloc (.cells #[.slice none 0 0, .int .i64 gb, .bool false] 97)).heap[g]? = some (.cells cs t (0, 0)) → ¬ g = E.m := fun hg => env8.map.noCells hg
    have xt9 := k9.blk xt8 (nm xt8)
    have xr9 := k9.blk xgr8 (nm xgr8)
    have c9t0 : w9.cell? ⟨w7.heap.size, 0, none⟩ = some (.slice none 0 0) := blk_cell xt9 0
    have c9t1 : w9.cell? ⟨w7.heap.size, 1, none⟩ = some (.int .i64 gb) := blk_cell xt9 1
    have c9t2 : w9.cell? ⟨w7.heap.size, 2, none⟩ = some (.bool false) := blk_cell xt9 2
    have c9r0 : w9.cell? ⟨gr, 0, none⟩ = some (.slice none 0 0) := blk_cell xr9 0
    have c9r1 : w9.cell? ⟨gr, 1, none⟩ = some (.int .i64 0) := blk_cell xr9 1
    have c9r2 : w9.cell? ⟨gr, 2, none⟩ = some (.bool false) := blk_cell xr9 2
    have z9 : ∀ i, w9.frozen? ⟨gr, i, none⟩ = false := blk_frozen xr9
    have ENV9 := Aside0.mk env9
    have K89 := Aside0.mk (k8.trans k9 (fun k e => .inl e))
    have XR9 := Aside0.mk xr9
    clear env9 k9 k8 row9 nm xt9 xr9 env8 xgs8 xgr8 xt8 hb8 xgr7 k7 i7 hgm
    go_wp2_with fail
    refine bodyPost_ret (results_cell_row rfl _ _ gr 97 _ (0, 0) _ rfl (blk_set (blk_set (blk_set XR9.out 0 _) 1 _) 2 _) hu97 rfl (by kernel_rfl)) rfl ?_
    have kset : ∀ T : Nat → Prop, T gr → KB T w9 (((w9.setCell ⟨gr, 0, none⟩ (.slice none 0 0)).setCell ⟨gr, 1, none⟩ (.int .i64 gb)).setCell ⟨gr, 2, none⟩ (.bool false)) := fun T t1 => (((KB.refl T w9).set (p := ⟨gr, 0, none⟩) (.inl t1) _).set (p := ⟨gr, 1, none⟩) (.inl t1) _).set (p := ⟨gr, 2, none⟩) (.inl t1) _
    have hAA : ∀ k, A k → E.w0.heap.size ≤ k ∧ ((A k ∨ k = gr ∨ k = w7.heap.size) ∨ (((w9.setCell ⟨gr, 0, none⟩ (.slice none 0 0)).setCell ⟨gr, 1, none⟩ (.int .i64 gb)).setCell ⟨gr, 2, none⟩ (.bool false)).heap.size ≤ k) := fun k hk => ⟨HI.out.lo k hk, .inl (.inl hk)⟩
    refine ⟨.slice none 0 0, by rw [hS]; rfl, by rw [hS]; exact Kd.R_nil _ _ _ _ _, (ENV9.out.step (kset _ (.inr (.inl rfl)))).imp hAA, K89.out.trans (kset (fun k => w.heap.size ≤ k) GEgr) (fun k e => .inr e)⟩
   | true =>
    simp only [if_true] at hS
    have hm := g1_mem (ofV E.l0 E.l2 E.D E.S s) (loopsOf s.r 5) (by rw [hgm])
    rw [hgm] at hm
    have hy := ofV_yes E.l0 E.l2 E.D E.S s ga gb hm.2
    have hA8 : ∀ k, (A k ∨ k = gr ∨ k = w7.heap.size) → k < (w7.alloc (.cells #[.slice none 0 0, .int .i64 gb, .bool true] 97)).heap.size := fun k hk => by
     simp
     rcases hk with hk | hk | hk
     ·
      have := hA k hk
      omega
     ·
      omega
     ·
      omega
    have hsame := same_calls E HE.out s HS.out ga gb hm.1 hy.1 hy.2.2 (by have := hy.2.1; omega) HIH.out _ _ env8 hA8
    have c8n0 : (w7.alloc (.cells #[.slice none 0 0, .int .i64 gb, .bool true] 97)).cell? ⟨E.Bn, 0, none⟩ = some (.slice E.A0 E.l0.length E.c0) := blk_cell env8.xn 0
    have c8n1 : (w7.alloc (.cells #[.slice none 0 0, .int .i64 gb, .bool true] 97)).cell? ⟨E.Bn, 1, none⟩ = some (.slice E.A1 E.l1.length E.c1) := blk_cell env8.xn 1
    have c8n2 : (w7.alloc (.cells #[.slice none 0 0, .int .i64 gb, .bool true] 97)).cell? ⟨E.Bn, 2, none⟩ = some (.slice E.A2 E.l2.length E.c2) := blk_cell env8.xn 2
    have c8n3 : (w7.alloc (.cells #[.slice none 0 0, .int .i64 gb, .bool true] 97)).cell? ⟨E.Bn, 3, none⟩ = some (.int .i64 E.wp) := blk_cell env8.xn 3
    have c8d : (w7.alloc (.cells #[.slice none 0 0, .int .i64 gb, .bool true] 97)).cell? ⟨E.Bd, 0, none⟩ = some (.slice E.Ad E.D.length E.cd) := blk_cell env8.xd 0
    have c8s : (w7.alloc (.cells #[.slice none 0 0, .int .i64 gb, .bool true] 97)).cell? ⟨E.Bs, 0, none⟩ = some (SEARCHF E) := blk_cell env8.xs 0
    have HSAME := Aside0.mk hsame
    have ENV8 := Aside0.mk env8
    have XG8 := Aside0.mk xgs8
    have XR8 := Aside0.mk xgr8
    have XT8 := Aside0.mk xt8
    have K8 := Aside0.mk k8
    have HSS := Aside0.mk hS
    clear hsame env8 xgs8 xgr8 xt8 k8 hS hm hy hgm hA8 hb8 xgr7 k7 i7
    go_wp2_with fail
    refine HSAME.out.mono ?_
    rintro e w9 ⟨v, rfl, hrow, henv, hkb⟩
    obtain ⟨vA, vn, vc, rfl⟩ := R_shape hrow
    clear c8k c8s0 c8s1 c8s2 c8n0 c8n1 c8n2 c8n3 c8d c8s
    have nm : ∀ {g : Nat} {cs : Array Value} {t : TypeId}, (w7.alloc (.cells #[.slice none 0 0, .int .i64 gb, .bool true] 97)).heap[g]? = some (.cells cs t (0, 0)) → ¬ g = E.m := fun hg => ENV8.out.map.noCells hg
    have xt9 := hkb.blk XT8.out (nm XT8.out)
    have xg9 := hkb.blk XG8.out (nm XG8.out)
    have xr9 := hkb.blk XR8.out (nm XR8.out)
    have t9 : w9.cell? ⟨w7.heap.size, 0, none⟩ = some (.slice none 0 0) := blk_cell xt9 0
    have z9 : w9.frozen? ⟨w7.heap.size, 0, none⟩ = false := blk_frozen xt9 0
    have kst : KB (fun k => A k ∨ k = gr ∨ k = w7.heap.size) w9 (w9.setCell ⟨w7.heap.size, 0, none⟩ (.slice vA vn vc)) := (KB.refl _ w9).set (p := ⟨w7.heap.size, 0, none⟩) (.inl (.inr (.inr rfl))) _
    have kst2 : KB (fun k => w.heap.size ≤ k) w9 (w9.setCell ⟨w7.heap.size, 0, none⟩ (.slice vA vn vc)) := (KB.refl _ w9).set (p := ⟨w7.heap.size, 0, none⟩) (.inl (by show w.heap.size ≤ w7.heap.size; omega)) _
    have env10 := henv.step kst
    have row10 : E.Row (fun k => A k ∨ k = gr ∨ k = w7.heap.size) (w9.setCell ⟨w7.heap.size, 0, none⟩ (.slice vA vn vc)) (.slice vA vn vc) (E.S s).1 := by rw [HSS.out]; exact kst.R hrow (fun k hk => hk.2)
    have xt10 := blk_set xt9 0 (.slice vA vn vc)
    have nst : gs ≠ w7.heap.size := blk_ne xg9 xt9 (by decide)
    have xg10 := blk_far (p := ⟨w7.heap.size, 0, none⟩) xg9 nst (.slice vA vn vc)
    have xr10 := blk_far (p := ⟨w7.heap.size, 0, none⟩) xr9 nrt (.slice vA vn vc)
    have k10 := (K8.out.trans hkb (fun k e => .inl e)).trans kst2 (fun k e => .inr e)
    have hpt := put_tail env10 HE.out.bm HS.out.1 (.slice vA vn vc) row10
    rw [HSS.out] at hpt
    obtain ⟨w11, hrun, env11, row11, k11⟩ := hpt
    try dsimp only at hrun
    have nm2 : ∀ {g : Nat} {cs : Array Value} {t : TypeId}, (w9.setCell ⟨w7.heap.size, 0, none⟩ (.slice vA vn vc)).heap[g]? = some (.cells cs t (0, 0)) → ¬ g = E.m := fun hg => env10.map.noCells hg
    have xt11 := k11.blk xt10 (nm2 xt10)
    have xr11 := k11.blk xr10 (nm2 xr10)
    have d0 : (w9.setCell ⟨w7.heap.size, 0, none⟩ (.slice vA vn vc)).cell? ⟨E.Bk, 0, none⟩ = some (.map (some E.m)) := blk_cell env10.xk 0
    have d1 : (w9.setCell ⟨w7.heap.size, 0, none⟩ (.slice vA vn vc)).cell? ⟨gs, 0, none⟩ = some (.int .i64 s.p) := blk_cell xg10 0
    have d2 : (w9.setCell ⟨w7.heap.size, 0, none⟩ (.slice vA vn vc)).cell? ⟨gs, 1, none⟩ = some (.int .i64 s.h) := blk_cell xg10 1
    have d3 : (w9.setCell ⟨w7.heap.size, 0, none⟩ (.slice vA vn vc)).cell? ⟨gs, 2, none⟩ = some (.int .i64 s.r) := blk_cell xg10 2
    have d4 : (w9.setCell ⟨w7.heap.size, 0, none⟩ (.slice vA vn vc)).cell? ⟨w7.heap.size, 0, none⟩ = some (.slice vA vn vc) := blk_cell xt10 0
    have d5 : (w9.setCell ⟨w7.heap.size, 0, none⟩ (.slice vA vn vc)).cell? ⟨w7.heap.size, 1, none⟩ = some (.int .i64 gb) := blk_cell xt10 1
    have d6 : (w9.setCell ⟨w7.heap.size, 0, none⟩ (.slice vA vn vc)).cell? ⟨w7.heap.size, 2, none⟩ = some (.bool true) := blk_cell xt10 2
    have e0 : w11.cell? ⟨w7.heap.size, 0, none⟩ = some (.slice vA vn vc) := blk_cell xt11 0
    have e1 : w11.cell? ⟨w7.heap.size, 1, none⟩ = some (.int .i64 gb) := blk_cell xt11 1
    have e2 : w11.cell? ⟨w7.heap.size, 2, none⟩ = some (.bool true) := blk_cell xt11 2
    have e3 : w11.cell? ⟨gr, 0, none⟩ = some (.slice none 0 0) := blk_cell xr11 0
    have e4 : w11.cell? ⟨gr, 1, none⟩ = some (.int .i64 0) := blk_cell xr11 1
    have e5 : w11.cell? ⟨gr, 2, none⟩ = some (.bool false) := blk_cell xr11 2
    have z11 : ∀ i, w11.frozen? ⟨gr, i, none⟩ = false := blk_frozen xr11
    have ENV11 := Aside0.mk env11
    have K11 := Aside0.mk (k10.trans k11 (fun k e => .inl e))
    have XR11 := Aside0.mk xr11
    have ROW11 := Aside0.mk row11
    clear env11 k11 row11 xr11 xt11 nm nm2 k10 env10 row10 xt10 xg10 xr10 kst kst2 xt9 xg9 xr9 henv hkb hrow
    go_wp2_with fail
    refine bodyPost_ret (results_cell_row rfl _ _ gr 97 _ (0, 0) _ rfl (blk_set (blk_set (blk_set XR11.out 0 _) 1 _) 2 _) hu97 rfl (by kernel_rfl)) rfl ?_
    have kset : ∀ T : Nat → Prop, T gr → KB T w11 (((w11.setCell ⟨gr, 0, none⟩ (.slice vA vn vc)).setCell ⟨gr, 1, none⟩ (.int .i64 gb)).setCell ⟨gr, 2, none⟩ (.bool true)) := fun T t1 => (((KB.refl T w11).set (p := ⟨gr, 0, none⟩) (.inl t1) _).set (p := ⟨gr, 1, none⟩) (.inl t1) _).set (p := ⟨gr, 2, none⟩) (.inl t1) _
    have hAA : ∀ k, A k → E.w0.heap.size ≤ k ∧ ((A k ∨ k = gr ∨ k = w7.heap.size) ∨ (((w11.setCell ⟨gr, 0, none⟩ (.slice vA vn vc)).setCell ⟨gr, 1, none⟩ (.int .i64 gb)).setCell ⟨gr, 2, none⟩ (.bool true)).heap.size ≤ k) := fun k hk => ⟨HI.out.lo k hk, .inl (.inl hk)⟩
    refine ⟨.slice vA vn vc, by rw [HSS.out]; rfl, ?_, (ENV11.out.step (kset _ (.inr (.inl rfl)))).imp hAA, K11.out.trans (kset (fun k => w.heap.size ≤ k) GEgr) (fun k e => .inr e)⟩
    have hrr := (kset (fun k => A k ∨ k = gr ∨ k = w7.heap.size) (.inr (.inl rfl))).R ROW11.out (fun k hk => hk.2)
    rw [HSS.out]
    exact Kd.R_mono hrr (fun k hk => ⟨hk.1, fun ha => hk.2 (.inl ha)⟩)
end Go.Proofs.Ytipphcjgdebecaa.PA
namespace Go.Proofs.Ytipphcjgdebecaa.PA
open Go.RowKit Go.Proofs.YtipphcjgdebecaaW.PrintWords Go.Proofs.YtipphcjgdebecaaW.PrintLast Go.Proofs.YtipphcjgdebecaaW.PrintMore
attribute [local go_sem] max2_int min2_int max_two min_two max_three min_three max_four min_four
set_option linter.unusedVariables false
set_option linter.unusedSimpArgs false
theorem search_all (E : OE) (hE : E.Fit) : ∀ (c : Nat) (s : Sp), E.At s → cntB s.r ≤ c → SearchC E s := by
 intro c
 induction c with
 | zero => exact fun s hs hc => search_step E hE s hs (fun s' _ h => by omega)
 | succ c ih => exact fun s hs hc => search_step E hE s hs (fun s' hs' h => ih s' hs' (by omega))
theorem bit_low : (List.range 32).all (fun r => (List.range 5).all fun i => !(bitB r i) || decide (2 ^ i ≤ r)) = true := by kernel_rfl
theorem bit_le (r : Int) (h0 : 0 ≤ r) (h1 : r < 32) (k : Nat) (hk : k < 5) (hb : bitB r k = true) : (2 : Int) ^ k ≤ r := by
 obtain ⟨n, rfl⟩ := Int.eq_ofNat_of_zero_le h0
 have h := bit_low
 rw [List.all_eq_true] at h
 have h2 := h n (by simp; omega)
 rw [List.all_eq_true] at h2
 have h3 := h2 k (by simp; omega)
 rw [hb] at h3
 simp only [Bool.not_true, Bool.false_or, decide_eq_true_eq] at h3
 exact_mod_cast h3
theorem valid_lens {l0 : List S39} {l1 : List S37} {l2 : List (List Int)} (h : validB l0 l1 l2 = true) : l2.length = l0.length + 1 ∧ 1 ≤ l0.length ∧ l0.length ≤ 5 ∧ 1 ≤ l1.length ∧ l1.length ≤ 72 ∧ ∀ p : Int, 0 ≤ p → p ≤ l0.length → (rd_L1 l2 p).length = l0.length + 1 := by
 unfold validB inB at h
 simp only [Bool.and_eq_true, decide_eq_true_eq] at h
 obtain ⟨h1, h2, ⟨h3, h4⟩, ⟨h5, h6⟩, _⟩ := h
 refine ⟨by omega, by omega, by omega, by omega, by omega, fun p p0 p1 => ?_⟩
 unfold waysB at h2
 rw [List.all_eq_true] at h2
 have h7 := h2 p.toNat (by simp; omega)
 unfold rowB at h7
 simp only [Bool.and_eq_true, decide_eq_true_eq] at h7
 have h8 := h7.1
 unfold rd_L1
 omega
def duesV (l0 : List S39) (l1 : List S37) (l2 : List (List Int)) (wp : Int) (n : Nat) : List Int := (List.range n).map fun i : Nat => (pipe_net_due.f l0 l1 l2 wp (i : Int)).getD 0
theorem duesV_succ (l0 : List S39) (l1 : List S37) (l2 : List (List Int)) (wp : Int) (n : Nat) : duesV l0 l1 l2 wp (n + 1) = duesV l0 l1 l2 wp n ++ [(pipe_net_due.f l0 l1 l2 wp (n : Int)).getD 0] := by simp [duesV, List.range_succ]
theorem duesV_length (l0 : List S39) (l1 : List S37) (l2 : List (List Int)) (wp : Int) (n : Nat) : (duesV l0 l1 l2 wp n).length = n := by simp [duesV]
theorem due_some (l0 : List S39) (l1 : List S37) (l2 : List (List Int)) (wp : Int) (i : Int) (h0 : 0 ≤ i) (h1 : i < l0.length) (hw : 0 ≤ wp) (hn : l1.length ≤ 1000) : pipe_net_due.f l0 l1 l2 wp i = some ((pipe_net_due.f l0 l1 l2 wp i).getD 0) := by
 unfold pipe_net_due.f pipe_net_freezes.f
 rw [if_pos ⟨h0, h1, hw, hn⟩]
 simp only [Option.bind_some]
 split <;> rfl
def DInv (w W : World) (gb gr gd : Nat) (cb cr : Array Value) (v : Value) (xs : List Int) : Prop :=
 W.heap[gb]? = some (.cells cb 99 (0, 0)) ∧ W.heap[gr]? = some (.cells cr 97 (0, 0)) ∧ W.heap[gd]? = some (.cells #[v] 47 (0, 0)) ∧ Kd.R (Kd.int .i64) 3 W w.heap.size (fun _ => True) v xs ∧ Below w.heap.size w W ∧ w.heap.size ≤ gd
theorem DInv.below {w W W1 : World} {gb gr gd : Nat} {cb cr : Array Value} {v : Value} {xs : List Int} (h : DInv w W gb gr gd cb cr v xs) (hb : Below W.heap.size W W1) : DInv w W1 gb gr gd cb cr v xs := by
 obtain ⟨a, b, c, d, e, f⟩ := h
 exact ⟨blk_below a hb, blk_below b hb, blk_below c hb, Kd.R_below d hb, below_step e hb, f⟩
theorem DInv.put {w W W1 : World} {gb gr gd : Nat} {cb cr : Array Value} {v v1 : Value} {xs : List Int} {x : Int} (h : DInv w W gb gr gd cb cr v xs) (ho : Kd.R (Kd.int .i64) 3 W1 w.heap.size (fun _ => True) v1 (xs ++ [x])) (hB : Below w.heap.size w W1) (hg : W.grownBy W1 v.ownBlock) : DInv w (W1.setCell ⟨gd, 0, none⟩ v1) gb gr gd cb cr v1 (xs ++ [x]) := by
 obtain ⟨a, b, c, d, e, f⟩ := h
 have a1 := blk_grown a hg (Kd.R_ne d a (by decide))
 have b1 := blk_grown b hg (Kd.R_ne d b (by decide))
 have c1 := blk_grown c hg (Kd.R_ne d c (by decide))
 exact ⟨blk_far a1 (p := ⟨gd, 0, none⟩) (blk_ne a c (by decide)) _, blk_far b1 (p := ⟨gd, 0, none⟩) (blk_ne b c (by decide)) _, blk_set c1 0 v1, Kd.R_set ho c1 (by decide) 0 v1, below_set hB f, f⟩
theorem store_func (W : World) (g : Nat) (f : Fn) (a b : Array Value) (u : Value) (hc : W.cell? ⟨g, 0, none⟩ = some u) (hf : W.frozen? ⟨g, 0, none⟩ = false) : (store ⟨g, 0, none⟩ (.func f a b)).run Try.prog W = .ok () (W.setCell ⟨g, 0, none⟩ (.func f a b)) := by
 rw [run_store _ _ _ _ _ rfl]
 simp [stored, hc, hf]
def pipe_net_order.f (l0_0 : List (S39)) (l0_1 : List (S37)) (l0_2 : List (List Int)) (a0_3 : Int) (a1 : Int) (a2 : Int) : Option (List Int × Int × Bool) := if validB l0_0 l0_1 l0_2 = true ∧ 0 ≤ a0_3 ∧ 0 ≤ a1 ∧ a1 ≤ l0_0.length ∧ 0 ≤ a2 ∧ a2 < 2 ^ l0_0.length then some (bestV l0_0 l0_1 l0_2 (duesV l0_0 l0_1 l0_2 a0_3 l0_0.length) ⟨a1, 0, a2⟩) else none
set_option maxHeartbeats 8000000 in
set_option maxRecDepth 100000 in
theorem pipe_net_order.calls (A0_0 : Option Addr) (c0_0 : Nat) (l0_0 : List (S39)) (A0_1 : Option Addr) (c0_1 : Nat) (l0_1 : List (S37)) (A0_2 : Option Addr) (c0_2 : Nat) (l0_2 : List (List Int)) (a0_3 : Int) (a1 : Int) (a2 : Int) (r1 : List Int) (r2 : Int) (r3 : Bool) (w : World) (hr0_0 : Kd.C k39 w A0_0 l0_0.length l0_0) (hc0_0 : l0_0.length ≤ c0_0) (hr0_1 : Kd.C k37 w A0_1 l0_1.length l0_1) (hc0_1 : l0_1.length ≤ c0_1) (hr0_2 : Kd.C (Kd.slice 3 (Kd.int .i64)) w A0_2 l0_2.length l0_2) (hc0_2 : l0_2.length ≤ c0_2) (h : pipe_net_order.f l0_0 l0_1 l0_2 a0_3 a1 a2 = some (r1, r2, r3)) :
  Calls Try.prog 64 #[.agg #[.slice A0_0 l0_0.length c0_0, .slice A0_1 l0_1.length c0_1, .slice A0_2 l0_2.length c0_2, .int .i64 a0_3], .int .i64 a1, .int .i64 a2] w fun e w' => ∃ v0_ : Value, e = .returned (.agg #[v0_, .int .i64 r2, .bool r3]) ∧ Kd.R (Kd.int .i64) 3 w' w.heap.size (fun _ => True) v0_ r1 ∧ Below w.heap.size w w' := by
 unfold pipe_net_order.f at h
 split at h
 case isFalse => cases h
 rename_i hc
 have h' := Option.some.inj h
 clear h
 have HF := Aside0.mk h'
 clear h'
 obtain ⟨q0, q1, q2, q3, q4, q5⟩ := hc
 have HV := Aside0.mk (valid_lens q0)
 clear q0
 have HR0 := Aside0.mk hr0_0
 have HR1 := Aside0.mk hr0_1
 have HR2 := Aside0.mk hr0_2
 clear hr0_0 hr0_1 hr0_2
 have hu99 := Try.underlying99
 have hu97 := Try.underlying97
 have hmm := @run_makeMap Try.prog
 have hmf : ∀ (fn : Fn) (first cap : Array Value) (w : World), (Instr.makeFunc fn first cap).run Try.prog w = .ok (.func fn first cap) w := fun _ _ _ _ => rfl
 have HB := Aside0.mk (Below.refl w.heap.size w)
 go_enter Try.func64, Try.ntmps64
 go_wp2_with ((first | ((with_reducible refine gate_dst (N := 3) rfl ?_); refine box_event ?hg (N := 3) ?hd (cs := #[.slice A0_0 l0_0.length c0_0, .slice A0_1 l0_1.length c0_1, .slice A0_2 l0_2.length c0_2, .int .i64 a0_3]) (t := 99) ?hr ?_; (case hd => rfl); (case hg => rfl); (case hr => first | (go_simp; done) | (go_simp; rfl)); intro gb hg_gb w2 hbox hb; have BKgb := Aside0.mk hbox; have n_HB := Aside0.mk (below_step HB.out hb); have GEgb : w.heap.size ≤ gb := (by rw [hg_gb]; exact HB.out.size); clear HB; have HB := n_HB; clear n_HB; clear hbox hb hg_gb) | ((with_reducible refine gate_dst (N := 6) rfl ?_); refine box_event ?hg (N := 6) ?hd (cs := #[.slice none 0 0, .int .i64 0, .bool false]) (t := 97) ?hr ?_; (case hd => rfl); (case hg => rfl); (case hr => first | (go_simp; done) | (go_simp; rfl)); intro gr hg_gr w3 hbox hb; have BKgr := Aside0.mk hbox; have n_BKgb := Aside0.mk (blk_below BKgb.out hb); clear BKgb; have BKgb := n_BKgb; clear n_BKgb; have n_HB := Aside0.mk (below_step HB.out hb); have GEgr : w.heap.size ≤ gr := (by rw [hg_gr]; exact HB.out.size); clear HB; have HB := n_HB; clear n_HB; clear hbox hb hg_gr) | ((with_reducible refine gate_dst (N := 7) rfl ?_); refine box_event ?hg (N := 7) ?hd (cs := #[.slice none 0 0]) (t := 47) ?hr ?_; (case hd => rfl); (case hg => rfl); (case hr => first | (go_simp; done) | (go_simp; rfl)); intro gd hg_gd w4 hbox hb; have BKgd := Aside0.mk hbox; have n_BKgb := Aside0.mk (blk_below BKgb.out hb); clear BKgb; have BKgb := n_BKgb; clear n_BKgb; have n_BKgr := Aside0.mk (blk_below BKgr.out hb); clear BKgr; have BKgr := n_BKgr; clear n_BKgr; have n_HB := Aside0.mk (below_step HB.out hb); have GEgd : w.heap.size ≤ gd := (by rw [hg_gd]; exact HB.out.size); clear HB; have HB := n_HB; clear n_HB; clear hbox hb hg_gd; have hfgb := blk_frozen BKgb.out; have hcgb_0 : w4.cell? ⟨gb, 0, none⟩ = some (.slice A0_0 l0_0.length c0_0) := (blk_cell BKgb.out 0).trans rfl; have hcgb_1 : w4.cell? ⟨gb, 1, none⟩ = some (.slice A0_1 l0_1.length c0_1) := (blk_cell BKgb.out 1).trans rfl; have hcgb_2 : w4.cell? ⟨gb, 2, none⟩ = some (.slice A0_2 l0_2.length c0_2) := (blk_cell BKgb.out 2).trans rfl; have hcgb_3 : w4.cell? ⟨gb, 3, none⟩ = some (.int .i64 a0_3) := (blk_cell BKgb.out 3).trans rfl; have hfgr := blk_frozen BKgr.out; have hcgr_0 : w4.cell? ⟨gr, 0, none⟩ = some (.slice none 0 0) := (blk_cell BKgr.out 0).trans rfl; have hcgr_1 : w4.cell? ⟨gr, 1, none⟩ = some (.int .i64 0) := (blk_cell BKgr.out 1).trans rfl; have hcgr_2 : w4.cell? ⟨gr, 2, none⟩ = some (.bool false) := (blk_cell BKgr.out 2).trans rfl; have hfgd := blk_frozen BKgd.out; have hcgd_0 : w4.cell? ⟨gd, 0, none⟩ = some (.slice none 0 0) := (blk_cell BKgd.out 0).trans rfl)))
 clear hfgb hcgb_0 hcgb_1 hcgb_2 hcgb_3 hfgr hcgr_0 hcgr_1 hcgr_2 hfgd hcgd_0
 have hdi : Aside0 (DInv w w4 gb gr gd #[.slice A0_0 l0_0.length c0_0, .slice A0_1 l0_1.length c0_1, .slice A0_2 l0_2.length c0_2, .int .i64 a0_3] #[.slice none 0 0, .int .i64 0, .bool false] (.slice none 0 0) []) := ⟨BKgb.out, BKgr.out, BKgd.out, Kd.R_nil _ _ _ _ _, HB.out, GEgd⟩
 clear BKgb BKgr BKgd HB
 go_loopw [8, 15] (fun s8 s15 wr_ => ∃ (k : Nat) (v_ : Value), k ≤ l0_0.length ∧ s15 = .int .i64 k ∧ Aside0 (DInv w wr_ gb gr gd #[.slice A0_0 l0_0.length c0_0, .slice A0_1 l0_1.length c0_1, .slice A0_2 l0_2.length c0_2, .int .i64 a0_3] #[.slice none 0 0, .int .i64 0, .bool false] v_ (duesV l0_0 l0_1 l0_2 a0_3 k))) (fun _ s _ => l0_0.length - (intOf s).toNat)
 case atStart => exact ⟨0, _, by omega, rfl, hdi⟩
 case round =>
  clear hdi
  obtain ⟨wO, rfl⟩ : ∃ wo : World, wo = wr := ⟨_, rfl⟩
  obtain ⟨k, v_, hk, rfl, HI⟩ := hrel
  have HV1 := HV.out
  by_cases hlt : k < l0_0.length
  ·
   have hlt1 : (k : Int) < l0_0.length := by omega
   obtain ⟨vA, vn, vc, rfl⟩ := R_shape HI.out.2.2.2.1
   obtain ⟨dk, hdk⟩ : ∃ dk, dk = (pipe_net_due.f l0_0 l0_1 l0_2 a0_3 (k : Int)).getD 0 := ⟨_, rfl⟩
   have HDK := Aside0.mk hdk
   clear hdk
   have hdue : ∀ W, Below w.heap.size w W → Calls Try.prog 89 #[.agg #[.slice A0_0 l0_0.length c0_0, .slice A0_1 l0_1.length c0_1, .slice A0_2 l0_2.length c0_2, .int .i64 a0_3], .int .i64 k] W fun e w' => e = .returned (.int .i64 dk) ∧ Below W.heap.size W w' := fun W hW =>
    pipe_net_due.calls _ _ _ _ _ _ _ _ _ a0_3 k dk W (Kd.C_below HR0.out hW) hc0_0 (Kd.C_below HR1.out hW) hc0_1 (Kd.C_below HR2.out hW) hc0_2 (by rw [HDK.out]; exact due_some _ _ _ _ _ (by omega) hlt1 q1 (by omega))
   have HDUE := Aside0.mk hdue
   clear hdue
   have htup : ∀ W, W.heap[gb]? = some (.cells #[.slice A0_0 l0_0.length c0_0, .slice A0_1 l0_1.length c0_1, .slice A0_2 l0_2.length c0_2, .int .i64 a0_3] 99 (0, 0)) → Below w.heap.size w W → W.cell? ⟨gb, 0, none⟩ = some (.slice A0_0 l0_0.length c0_0) ∧ W.cell? ⟨gb, 1, none⟩ = some (.slice A0_1 l0_1.length c0_1) ∧ W.cell? ⟨gb, 2, none⟩ = some (.slice A0_2 l0_2.length c0_2) ∧ W.cell? ⟨gb, 3, none⟩ = some (.int .i64 a0_3) ∧ Aside0 (Below w.heap.size w W) := fun W h hb =>
    ⟨blk_cell h 0, blk_cell h 1, blk_cell h 2, blk_cell h 3, ⟨hb⟩⟩
   have hd0 := HI.out.below (below_drew (Below.refl wO.heap.size wO))
   have HS0 := Aside0.mk (htup wO.drew hd0.1 hd0.2.2.2.2.1)
   have hgd0 : wO.drew.cell? ⟨gd, 0, none⟩ = some (.slice vA vn vc) := blk_cell hd0.2.2.1 0
   have HD0 := Aside0.mk hd0
   have HT := Aside0.mk htup
   have hk5 : k ≤ 5 := by omega
   clear htup HV1 hd0
   go_wp2_with fail
   go_region_held3 (fun w' => w'.cell? ⟨gb, 0, none⟩ = some (.slice A0_0 l0_0.length c0_0) ∧ w'.cell? ⟨gb, 1, none⟩ = some (.slice A0_1 l0_1.length c0_1) ∧ w'.cell? ⟨gb, 2, none⟩ = some (.slice A0_2 l0_2.length c0_2) ∧ w'.cell? ⟨gb, 3, none⟩ = some (.int .i64 a0_3) ∧ Aside0 (Below w.heap.size w w'))
    (first | exact HS0.out | exact HS1.out | exact HS2.out | exact HS3.out | exact HS4.out)
    (first | ((go_at_call 89; refine (HDUE.out _ (Aside0.out (And.right (And.right (And.right (And.right (by assumption))))))).mono ?_; rintro e w5 ⟨rfl, hb⟩; have hd5 := DInv.below HD0.out hb; have HS1 := Aside0.mk (HT.out w5 hd5.1 hd5.2.2.2.2.1); have hd6 := hd5.below (below_alloc (Below.refl w5.heap.size w5) (.cells #[.int .i64 dk] 3)); have HS2 := Aside0.mk (HT.out _ hd6.1 hd6.2.2.2.2.1); have hgd5 : w5.cell? ⟨gd, 0, none⟩ = some (.slice vA vn vc) := blk_cell hd5.2.2.1 0; have hgd6 : (w5.alloc (.cells #[.int .i64 dk] 3)).cell? ⟨gd, 0, none⟩ = some (.slice vA vn vc) := blk_cell hd6.2.2.1 0; have HD5 := Aside0.mk hd5; clear hd5 hd6 hb))
       | ((refine Kd.R_append_step (Kd.int .i64) (w0 := w) (W := w5) w.heap.size (by rfl) (.tmp 18) (.tmp 22) 47 3 (.int .i64 0) 8 (by rfl) Try.underlying47 info3 rfl (by decide) (by omega) (.slice vA vn vc) (duesV l0_0 l0_1 l0_2 a0_3 k) dk [.int .i64 dk] (fun _ => True) (fun _ => False) (by rfl) (by rfl) rfl (fun _ h => h.elim) (fun _ _ => trivial) HD5.out.2.2.2.1 HD5.out.2.2.2.2.1 HD5.out.2.2.2.2.1.size (by rw [duesV_length]; omega) ?_; intro v6 w6 ho hB hg hat; obtain ⟨uA, un, uc, rfl⟩ := R_shape ho; have hbg := blk_grown HD5.out.1 hg (Kd.R_ne HD5.out.2.2.2.1 HD5.out.1 (by decide)); have hbd := blk_grown HD5.out.2.2.1 hg (Kd.R_ne HD5.out.2.2.2.1 HD5.out.2.2.1 (by decide)); have HS3 := Aside0.mk (HT.out w6 hbg hB); have hgd7 : w6.cell? ⟨gd, 0, none⟩ = some (.slice vA vn vc) := blk_cell hbd 0; have hfd7 : w6.frozen? ⟨gd, 0, none⟩ = false := blk_frozen hbd 0; have hd7 := HD5.out.put ho hB hg; have HS4 := Aside0.mk (HT.out _ hd7.1 hd7.2.2.2.2.1); have HD7 := Aside0.mk hd7; clear ho hB hg hat hbg hbd hd7)))
   all_goals
    rename_i hHeld
    clear hHeld
    try simp only [Exit.then]
    go_wp2_with fail
    go_roundw
    case rel => first | exact ⟨k + 1, _, by omega, by go_num, ⟨by rw [duesV_succ, ← HDK.out]; exact HD7.out⟩⟩ | ((repeat apply Exists.intro); exact ⟨⟨k + 1, _, by omega, by go_num, ⟨by rw [duesV_succ, ← HDK.out]; exact HD7.out⟩⟩, rfl⟩)
    case measure => simp [intOf]; omega
  ·
   obtain rfl : k = l0_0.length := by omega
   obtain ⟨vA, vn, vc, rfl⟩ := R_shape HI.out.2.2.2.1
   have hstf := fun (W : World) (g : Nat) (f : Fn) (a b : Array Value) (hc : W.cell? ⟨g, 0, none⟩ = some .nilFunc) (hf : W.frozen? ⟨g, 0, none⟩ = false) => store_func W g f a b .nilFunc hc hf
   go_wp2_with fail
   have HE5 : Aside0 (l0_0.length ≤ 5) := ⟨HV1.2.2.1⟩
   have hvn := (Kd.R_reads' HI.out.2.2.2.1).1
   subst hvn
   obtain ⟨E, hEe⟩ : ∃ E : OE, E = { w0 := w, A0 := A0_0, c0 := c0_0, l0 := l0_0, A1 := A0_1, c1 := c0_1, l1 := l0_1, A2 := A0_2, c2 := c0_2, l2 := l0_2, wp := a0_3, Bn := gb, Bk := wO.heap.size + 1, Bd := gd, Bs := wO.heap.size + 1 + 1, m := wO.heap.size, Ad := vA, cd := vc, D := duesV l0_0 l0_1 l0_2 a0_3 l0_0.length } := ⟨_, rfl⟩
   have hDO := HI.out
   have lO : w.heap.size ≤ wO.heap.size := hDO.2.2.2.2.1.size
   have hE : E.Fit := by
    subst hEe
    exact ⟨HR0.out, HR1.out, HR2.out, HV1.2.2.1, duesV_length _ _ _ _ _, HV1.1, HV1.2.2.2.2.2, GEgb, by show w.heap.size ≤ wO.heap.size + 1; omega, GEgd, by show w.heap.size ≤ wO.heap.size + 1 + 1; omega, lO⟩
   have hAt : E.At ⟨a1, 0, a2⟩ := by
    subst hEe
    have h32 : (2 : Int) ^ l0_0.length ≤ 32 := by
     have h := Nat.pow_le_pow_right (n := 2) (by decide) HV1.2.2.1
     have : ((2 ^ l0_0.length : Nat) : Int) ≤ ((2 ^ 5 : Nat) : Int) := Int.ofNat_le.2 h
     simpa using this
    refine ⟨⟨q4, by show a2 < 32; omega⟩, q2, q3, fun i hi => ?_⟩
    obtain ⟨k, rfl, hk, hb⟩ := (mem_loopsOf a2 5 i).1 hi
    have h1 := bit_le a2 q4 (by omega) k hk hb
    rcases Nat.lt_or_ge k l0_0.length with h2 | h2
    ·
     show (k : Int) < l0_0.length
     omega
    ·
     exfalso
     have h3 := Nat.pow_le_pow_right (n := 2) (by decide) h2
     have h4 : ((2 ^ l0_0.length : Nat) : Int) ≤ ((2 ^ k : Nat) : Int) := Int.ofNat_le.2 h3
     simp at h4
     omega
   obtain ⟨w5, hw5, bm5, bk5, bs5, hsz5, hb5⟩ := allocs3 wO (.map #[] 0) (.cells #[.map (some wO.heap.size)] 120) (.cells #[.func (.func 90) #[] #[.pointer (some ⟨gb, 0, none⟩), .pointer (some ⟨wO.heap.size + 1, 0, none⟩), .pointer (some ⟨gd, 0, none⟩), .pointer (some ⟨wO.heap.size + 1 + 1, 0, none⟩)]] 121)
   rw [hw5]
   clear hw5
   have hD5 := hDO.below hb5
   have lgr := blk_lt hDO.2.1
   have lgb := blk_lt hDO.1
   have lgd := blk_lt hDO.2.2.1
   have henv : EnvInv E (fun k => k = gr) w5 := by
    subst hEe
    refine ⟨blk_ne hD5.1 hD5.2.1 (by decide), by show ¬ wO.heap.size + 1 = gr; omega, blk_ne hD5.2.2.1 hD5.2.1 (by decide), by show ¬ wO.heap.size + 1 + 1 = gr; omega, by show ¬ wO.heap.size = gr; omega, fun k hk => by show w.heap.size ≤ k; omega, hD5.1, bk5, hD5.2.2.1, bs5, hD5.2.2.2.2.1, ?_, ⟨#[], 0, [], bm5, rfl, by simp, fun i k e h _ => by simp at h, fun k hk => hk.elim⟩⟩
    have hr1 := Kd.R_types (Kd.R_mono (Kd.R_bound hDO.2.2.2.1) (ok' := fun k => k < wO.heap.size) (fun k hk => hk.2.2.1)) hDO.2.1 (by decide)
    exact Kd.R_mono (Kd.R_below hr1 hb5) (fun k hk => ⟨by show ¬ k = wO.heap.size; omega, hk.2⟩)
   have hcall := search_all E hE 5 ⟨a1, 0, a2⟩ hAt (cnt_le _) (fun k => k = gr) w5 henv (fun k hk => by omega)
   have hS : E.S ⟨a1, 0, a2⟩ = (r1, r2, r3) := by subst hEe; exact HF.out
   rw [hS] at hcall
   subst hEe
   refine hcall.mono ?_
   rintro e w7 ⟨v, rfl, hrow, henv7, hkb⟩
   obtain ⟨uA, un, uc, rfl⟩ := R_shape hrow
   have xr7 := hkb.blk hD5.2.1 (by show ¬ gr = wO.heap.size; omega)
   have hb7 : Below w.heap.size w w7 := henv7.hb
   have ROW := Aside0.mk hrow
   have XR := Aside0.mk xr7
   have HB7 := Aside0.mk hb7
   have z7 : ∀ i, w7.frozen? ⟨gr, i, none⟩ = false := blk_frozen xr7
   have c70 : w7.cell? ⟨gr, 0, none⟩ = some (.slice none 0 0) := blk_cell xr7 0
   have c71 : w7.cell? ⟨gr, 1, none⟩ = some (.int .i64 0) := blk_cell xr7 1
   have c72 : w7.cell? ⟨gr, 2, none⟩ = some (.bool false) := blk_cell xr7 2
   clear hcall hrow henv7 hkb xr7 hb7 henv hE hAt hS hstf hDO hD5 HV1 bm5 bk5 bs5 hb5
   go_wp2_with fail
   refine bodyPost_ret (results_cell_row rfl _ _ gr 97 _ (0, 0) _ rfl (blk_set (blk_set (blk_set XR.out 0 _) 1 _) 2 _) hu97 rfl (by kernel_rfl)) rfl ?_
   refine ⟨.slice uA un uc, rfl, ?_, below_set (below_set (below_set HB7.out GEgr) GEgr) GEgr⟩
   exact Kd.R_mono (Kd.R_set (Kd.R_set (Kd.R_set ROW.out XR.out (by decide) 0 _) (blk_set XR.out 0 _) (by decide) 1 _) (blk_set (blk_set XR.out 0 _) 1 _) (by decide) 2 _) (fun _ _ => trivial)
end Go.Proofs.Ytipphcjgdebecaa.PA
namespace Go.Proofs.Ytipphcjgdebecaa.PA
open Go.RowKit Go.Proofs.YtipphcjgdebecaaW.PrintWords Go.Proofs.YtipphcjgdebecaaW.PrintLast Go.Proofs.YtipphcjgdebecaaW.PrintMore
attribute [local go_sem] max2_int min2_int max_two min_two max_three min_three max_four min_four
set_option linter.unusedVariables false
set_option linter.unusedSimpArgs false
def pipe_Order.j0 : Nat → Int → Int → Bool → List (S39) → List (S37) → List (List Int) → Option (List Int × Int × Int)
 | 0, _, _, _, _, _, _ => none
 | k + 1, x1, x2, x24, x130000, x130001, x130002 => if x24 = true then (some (([] : List Int), 0, 2)) else ((pipe_net_order.f x130000 x130001 x130002 0 x1 x2).bind fun bt133 => (if bt133.2.2 = true then (some (bt133.1, bt133.2.1, 0)) else (some (([] : List Int), 0, 5))))
def pipe_Order.f (k : Nat) (l0_0 : List (S39)) (l0_1 : List (S37)) (l0_2 : List (List Int)) (a1 : Int) (a2 : Int) : Option (List Int × Int × Int) := (pipe_valid.f l0_0 l0_1 l0_2).bind fun t130 => (if t130 = true then ((pipe_place.f l0_0 l0_1 l0_2 a1).bind fun t131 => (if t131 = true then ((pipe_fault.f l0_0 l0_1 l0_2 a2).bind fun t132 => (pipe_Order.j0 k a1 a2 (!t132) l0_0 l0_1 l0_2)) else (pipe_Order.j0 k a1 a2 true l0_0 l0_1 l0_2))) else (pipe_Order.j0 k a1 a2 true l0_0 l0_1 l0_2))
set_option maxHeartbeats 8000000 in
set_option maxRecDepth 100000 in
theorem pipe_Order.calls (k : Nat) (A0_0 : Option Addr) (c0_0 : Nat) (l0_0 : List (S39)) (A0_1 : Option Addr) (c0_1 : Nat) (l0_1 : List (S37)) (A0_2 : Option Addr) (c0_2 : Nat) (l0_2 : List (List Int)) (a1 : Int) (a2 : Int) (r1 : List Int) (r2 : Int) (r3 : Int) (w : World) (hr0_0 : Kd.C k39 w A0_0 l0_0.length l0_0) (hc0_0 : l0_0.length ≤ c0_0) (hr0_1 : Kd.C k37 w A0_1 l0_1.length l0_1) (hc0_1 : l0_1.length ≤ c0_1) (hr0_2 : Kd.C (Kd.slice 3 (Kd.int .i64)) w A0_2 l0_2.length l0_2) (hc0_2 : l0_2.length ≤ c0_2) (h : pipe_Order.f k l0_0 l0_1 l0_2 a1 a2 = some (r1, r2, r3)) :
  Calls Try.prog 24 #[.agg #[.slice A0_0 l0_0.length c0_0, .slice A0_1 l0_1.length c0_1, .slice A0_2 l0_2.length c0_2], .int .i64 a1, .int .i64 a2] w fun e w' => ∃ v0_ : Value, e = .returned (.tuple #[v0_, .int .i64 r2, .int .i64 r3]) ∧ Kd.R (Kd.int .i64) 3 w' w.heap.size (fun _ => True) v0_ r1 ∧ Below w.heap.size w w' := by
 have hu26 := Try.underlying26
 have hu99 := Try.underlying99
 have hu97 := Try.underlying97
 have HR0_0 := Aside0.mk hr0_0
 have HC0_0 := Aside0.mk hc0_0
 clear hr0_0 hc0_0
 have HR0_1 := Aside0.mk hr0_1
 have HC0_1 := Aside0.mk hc0_1
 clear hr0_1 hc0_1
 have HR0_2 := Aside0.mk hr0_2
 have HC0_2 := Aside0.mk hc0_2
 clear hr0_2 hc0_2
 have HB := Aside0.mk (Below.refl w.heap.size w)
 have H : ((pipe_valid.f l0_0 l0_1 l0_2).bind fun t130 => (if t130 = true then ((pipe_place.f l0_0 l0_1 l0_2 a1).bind fun t131 => (if t131 = true then ((pipe_fault.f l0_0 l0_1 l0_2 a2).bind fun t132 => (pipe_Order.j0 k a1 a2 (!t132) l0_0 l0_1 l0_2)) else (pipe_Order.j0 k a1 a2 true l0_0 l0_1 l0_2))) else (pipe_Order.j0 k a1 a2 true l0_0 l0_1 l0_2))) = some (r1, r2, r3) := h
 clear h
 have HC4 := Aside0.mk H
 clear H
 go_enter Try.func24, Try.ntmps24
 go_upto_region 1 with (first | ((with_reducible refine gate_dst (N := 3) rfl ?_); refine box_event ?hg (N := 3) ?hd (cs := #[.slice A0_0 l0_0.length c0_0, .slice A0_1 l0_1.length c0_1, .slice A0_2 l0_2.length c0_2]) (t := 26) ?hr ?_; (case hd => rfl); (case hg => rfl); (case hr => first | (go_simp; done) | (go_simp; rfl)); intro gb129 hg w5 hbox hb; have n0_ := Aside0.mk (below_step (by repeat (first | (with_reducible first | exact HB.out | apply below_alloc | apply pw_below_drewN | apply below_drew1) | exact HB.out)) hb); have n1_ := Aside0.mk (hbox); have n2_ := Aside0.mk ((by rw [hg]; exact (below_size (by repeat (first | (with_reducible first | exact HB.out | apply below_alloc | apply pw_below_drewN | apply below_drew1) | exact HB.out))) : w.heap.size ≤ gb129)); have n3_ := Aside0.mk ((by rw [hg]; exact (below_size (by repeat (first | (with_reducible first | exact HB.out | apply below_alloc | apply pw_below_drewN | apply below_drew1) | exact HB.out))) : w.heap.size ≤ gb129)); clear HB; have HB := n0_; have BK129 := n1_; have GW129 := n2_; have GE129 := n3_; clear n0_ n1_ n2_ n3_; clear hb hbox hg))
 repeat (go_quiet (first | ((with_reducible refine gate_dst (N := 3) rfl ?_); refine box_event ?hg (N := 3) ?hd (cs := #[.slice A0_0 l0_0.length c0_0, .slice A0_1 l0_1.length c0_1, .slice A0_2 l0_2.length c0_2]) (t := 26) ?hr ?_; (case hd => rfl); (case hg => rfl); (case hr => first | (go_simp; done) | (go_simp; rfl)); intro gb129 hg w5 hbox hb; have n0_ := Aside0.mk (below_step (by repeat (first | (with_reducible first | exact HB.out | apply below_alloc | apply pw_below_drewN | apply below_drew1) | exact HB.out)) hb); have n1_ := Aside0.mk (hbox); have n2_ := Aside0.mk ((by rw [hg]; exact (below_size (by repeat (first | (with_reducible first | exact HB.out | apply below_alloc | apply pw_below_drewN | apply below_drew1) | exact HB.out))) : w.heap.size ≤ gb129)); have n3_ := Aside0.mk ((by rw [hg]; exact (below_size (by repeat (first | (with_reducible first | exact HB.out | apply below_alloc | apply pw_below_drewN | apply below_drew1) | exact HB.out))) : w.heap.size ≤ gb129)); clear HB; have HB := n0_; have BK129 := n1_; have GW129 := n2_; have GE129 := n3_; clear n0_ n1_ n2_ n3_; clear hb hbox hg)); go_upto_region 1 with (first | ((with_reducible refine gate_dst (N := 3) rfl ?_); refine box_event ?hg (N := 3) ?hd (cs := #[.slice A0_0 l0_0.length c0_0, .slice A0_1 l0_1.length c0_1, .slice A0_2 l0_2.length c0_2]) (t := 26) ?hr ?_; (case hd => rfl); (case hg => rfl); (case hr => first | (go_simp; done) | (go_simp; rfl)); intro gb129 hg w5 hbox hb; have n0_ := Aside0.mk (below_step (by repeat (first | (with_reducible first | exact HB.out | apply below_alloc | apply pw_below_drewN | apply below_drew1) | exact HB.out)) hb); have n1_ := Aside0.mk (hbox); have n2_ := Aside0.mk ((by rw [hg]; exact (below_size (by repeat (first | (with_reducible first | exact HB.out | apply below_alloc | apply pw_below_drewN | apply below_drew1) | exact HB.out))) : w.heap.size ≤ gb129)); have n3_ := Aside0.mk ((by rw [hg]; exact (below_size (by repeat (first | (with_reducible first | exact HB.out | apply below_alloc | apply pw_below_drewN | apply below_drew1) | exact HB.out))) : w.heap.size ≤ gb129)); clear HB; have HB := n0_; have BK129 := n1_; have GW129 := n2_; have GE129 := n3_; clear n0_ n1_ n2_ n3_; clear hb hbox hg)))
 (try simp only [Act.put, List.setIfInBounds_toArray, List.set_cons_zero, List.set_cons_succ])
 go_cut [24] (fun v24 wc => ∃ (kq : Nat) (x24_3 : Bool), v24 = .bool x24_3 ∧ Aside0 (pipe_Order.j0 kq a1 a2 x24_3 l0_0 l0_1 l0_2 = some (r1, r2, r3)) ∧ Aside0 (kq ≤ k) ∧ Aside0 (wc.heap[gb129]? = some (.cells #[(.slice A0_0 l0_0.length c0_0), (.slice A0_1 l0_1.length c0_1), (.slice A0_2 l0_2.length c0_2)] 26 (0, 0))) ∧ Aside0 (Below w.heap.size w wc))
 case first =>
  have H := HC4.out
  clear HC4
  replace H := Option.bind_eq_some_iff.mp H
  obtain ⟨t130, A60, H⟩ := H
  replace H : (if t130 = true then ((pipe_place.f l0_0 l0_1 l0_2 a1).bind fun t131 => (if t131 = true then ((pipe_fault.f l0_0 l0_1 l0_2 a2).bind fun t132 => (pipe_Order.j0 k a1 a2 (!t132) l0_0 l0_1 l0_2)) else (pipe_Order.j0 k a1 a2 true l0_0 l0_1 l0_2))) else (pipe_Order.j0 k a1 a2 true l0_0 l0_1 l0_2)) = some (r1, r2, r3) := H
  have A6 := Aside0.mk A60
  clear A60
  by_cases c7 : t130 = true
  ·
   subst c7
   have H1 : ((pipe_place.f l0_0 l0_1 l0_2 a1).bind fun t131 => (if t131 = true then ((pipe_fault.f l0_0 l0_1 l0_2 a2).bind fun t132 => (pipe_Order.j0 k a1 a2 (!t132) l0_0 l0_1 l0_2)) else (pipe_Order.j0 k a1 a2 true l0_0 l0_1 l0_2))) = some (r1, r2, r3) := by rw [if_pos rfl] at H; exact H
   clear H
   have H := H1
   clear H1
   replace H := Option.bind_eq_some_iff.mp H
   obtain ⟨t131, A80, H⟩ := H
   replace H : (if t131 = true then ((pipe_fault.f l0_0 l0_1 l0_2 a2).bind fun t132 => (pipe_Order.j0 k a1 a2 (!t132) l0_0 l0_1 l0_2)) else (pipe_Order.j0 k a1 a2 true l0_0 l0_1 l0_2)) = some (r1, r2, r3) := H
   have A8 := Aside0.mk A80
   clear A80
   by_cases c9 : t131 = true
   ·
    subst c9
    have H1 : ((pipe_fault.f l0_0 l0_1 l0_2 a2).bind fun t132 => (pipe_Order.j0 k a1 a2 (!t132) l0_0 l0_1 l0_2)) = some (r1, r2, r3) := by rw [if_pos rfl] at H; exact H
    clear H
    have H := H1
    clear H1
    replace H := Option.bind_eq_some_iff.mp H
    obtain ⟨t132, A100, H⟩ := H
    replace H : (pipe_Order.j0 k a1 a2 (!t132) l0_0 l0_1 l0_2) = some (r1, r2, r3) := H
    have A10 := Aside0.mk A100
    clear A100
    have H' := Aside0.mk H
    clear H
    have hcz11_0 : w5.cell? ⟨gb129, 0, none⟩ = some (.slice A0_0 l0_0.length c0_0) := (blk_cell BK129.out 0).trans rfl
    have hcz11_1 : w5.cell? ⟨gb129, 1, none⟩ = some (.slice A0_1 l0_1.length c0_1) := (blk_cell BK129.out 1).trans rfl
    have hcz11_2 : w5.cell? ⟨gb129, 2, none⟩ = some (.slice A0_2 l0_2.length c0_2) := (blk_cell BK129.out 2).trans rfl
    have hfz11_0 := blk_frozen BK129.out 0
    have hfz11_1 := blk_frozen BK129.out 1
    have hfz11_2 := blk_frozen BK129.out 2
    go_wp2_with (first | (go_at_call 54; (with_reducible refine (pipe_valid.calls _ _ l0_0 _ _ l0_1 _ _ l0_2 true _ ?side1 ?side2 ?side3 ?side4 ?side5 ?side6 A6.out).mono ?_); (case side1 => repeat (first | exact (Kd.C_below HR0_0.out HB.out) | (with_reducible refine Kd.C_alloc ?_ _) | (with_reducible refine Kd.C_drewN ?_ _) | (with_reducible refine Kd.C_drew ?_))); (case side2 => exact HC0_0.out); (case side3 => repeat (first | exact (Kd.C_below HR0_1.out HB.out) | (with_reducible refine Kd.C_alloc ?_ _) | (with_reducible refine Kd.C_drewN ?_ _) | (with_reducible refine Kd.C_drew ?_))); (case side4 => exact HC0_1.out); (case side5 => repeat (first | exact (Kd.C_below HR0_2.out HB.out) | (with_reducible refine Kd.C_alloc ?_ _) | (with_reducible refine Kd.C_drewN ?_ _) | (with_reducible refine Kd.C_drew ?_))); (case side6 => exact HC0_2.out); rintro e w12 ⟨rfl, hb⟩; have n0_ := Aside0.mk (blk_below (g := gb129) (o := .cells #[.slice A0_0 l0_0.length c0_0, .slice A0_1 l0_1.length c0_1, .slice A0_2 l0_2.length c0_2] 26 (0, 0)) (by (with_reducible repeat (first | refine blk_drewN ?_ _ | refine blk_drew ?_ | refine blk_alloc ?_ _)); exact BK129.out) hb); have n1_ := Aside0.mk (below_step (by repeat (first | (with_reducible first | exact HB.out | apply below_alloc | apply pw_below_drewN | apply below_drew1 | refine below_set ?_ GE129.out) | exact HB.out)) hb); clear BK129; clear HB; have BK129 := n0_; have HB := n1_; clear n0_ n1_; (try clear hb); (try clear hb2); (try clear hk); (try clear hi); have hcz13_0 : w12.cell? ⟨gb129, 0, none⟩ = some (.slice A0_0 l0_0.length c0_0) := (blk_cell BK129.out 0).trans rfl; have hcz13_1 : w12.cell? ⟨gb129, 1, none⟩ = some (.slice A0_1 l0_1.length c0_1) := (blk_cell BK129.out 1).trans rfl; have hcz13_2 : w12.cell? ⟨gb129, 2, none⟩ = some (.slice A0_2 l0_2.length c0_2) := (blk_cell BK129.out 2).trans rfl; have hfz13_0 := blk_frozen BK129.out 0; have hfz13_1 := blk_frozen BK129.out 1; have hfz13_2 := blk_frozen BK129.out 2) | (go_at_call 62; (with_reducible refine (pipe_place.calls _ _ l0_0 _ _ l0_1 _ _ l0_2 a1 true _ ?side1 ?side2 ?side3 ?side4 ?side5 ?side6 A8.out).mono ?_); (case side1 => repeat (first | exact (Kd.C_below HR0_0.out HB.out) | (with_reducible refine Kd.C_alloc ?_ _) | (with_reducible refine Kd.C_drewN ?_ _) | (with_reducible refine Kd.C_drew ?_))); (case side2 => exact HC0_0.out); (case side3 => repeat (first | exact (Kd.C_below HR0_1.out HB.out) | (with_reducible refine Kd.C_alloc ?_ _) | (with_reducible refine Kd.C_drewN ?_ _) | (with_reducible refine Kd.C_drew ?_))); (case side4 => exact HC0_1.out); (case side5 => repeat (first | exact (Kd.C_below HR0_2.out HB.out) | (with_reducible refine Kd.C_alloc ?_ _) | (with_reducible refine Kd.C_drewN ?_ _) | (with_reducible refine Kd.C_drew ?_))); (case side6 => exact HC0_2.out); rintro e w14 ⟨rfl, hb⟩; have n0_ := Aside0.mk (blk_below (g := gb129) (o := .cells #[.slice A0_0 l0_0.length c0_0, .slice A0_1 l0_1.length c0_1, .slice A0_2 l0_2.length c0_2] 26 (0, 0)) (by (with_reducible repeat (first | refine blk_drewN ?_ _ | refine blk_drew ?_ | refine blk_alloc ?_ _)); exact BK129.out) hb); have n1_ := Aside0.mk (below_step (by repeat (first | (with_reducible first | exact HB.out | apply below_alloc | apply pw_below_drewN | apply below_drew1 | refine below_set ?_ GE129.out) | exact HB.out)) hb); clear BK129; clear HB; have BK129 := n0_; have HB := n1_; clear n0_ n1_; (try clear hb); (try clear hb2); (try clear hk); (try clear hi); have hcz15_0 : w14.cell? ⟨gb129, 0, none⟩ = some (.slice A0_0 l0_0.length c0_0) := (blk_cell BK129.out 0).trans rfl; have hcz15_1 : w14.cell? ⟨gb129, 1, none⟩ = some (.slice A0_1 l0_1.length c0_1) := (blk_cell BK129.out 1).trans rfl; have hcz15_2 : w14.cell? ⟨gb129, 2, none⟩ = some (.slice A0_2 l0_2.length c0_2) := (blk_cell BK129.out 2).trans rfl; have hfz15_0 := blk_frozen BK129.out 0; have hfz15_1 := blk_frozen BK129.out 1; have hfz15_2 := blk_frozen BK129.out 2) | (go_at_call 63; (with_reducible refine (pipe_fault.calls _ _ l0_0 _ _ l0_1 _ _ l0_2 a2 t132 _ ?side1 ?side2 ?side3 ?side4 ?side5 ?side6 A10.out).mono ?_); (case side1 => repeat (first | exact (Kd.C_below HR0_0.out HB.out) | (with_reducible refine Kd.C_alloc ?_ _) | (with_reducible refine Kd.C_drewN ?_ _) | (with_reducible refine Kd.C_drew ?_))); (case side2 => exact HC0_0.out); (case side3 => repeat (first | exact (Kd.C_below HR0_1.out HB.out) | (with_reducible refine Kd.C_alloc ?_ _) | (with_reducible refine Kd.C_drewN ?_ _) | (with_reducible refine Kd.C_drew ?_))); (case side4 => exact HC0_1.out); (case side5 => repeat (first | exact (Kd.C_below HR0_2.out HB.out) | (with_reducible refine Kd.C_alloc ?_ _) | (with_reducible refine Kd.C_drewN ?_ _) | (with_reducible refine Kd.C_drew ?_))); (case side6 => exact HC0_2.out); rintro e w16 ⟨rfl, hb⟩; have n0_ := Aside0.mk (blk_below (g := gb129) (o := .cells #[.slice A0_0 l0_0.length c0_0, .slice A0_1 l0_1.length c0_1, .slice A0_2 l0_2.length c0_2] 26 (0, 0)) (by (with_reducible repeat (first | refine blk_drewN ?_ _ | refine blk_drew ?_ | refine blk_alloc ?_ _)); exact BK129.out) hb); have n1_ := Aside0.mk (below_step (by repeat (first | (with_reducible first | exact HB.out | apply below_alloc | apply pw_below_drewN | apply below_drew1 | refine below_set ?_ GE129.out) | exact HB.out)) hb); clear BK129; clear HB; have BK129 := n0_; have HB := n1_; clear n0_ n1_; (try clear hb); (try clear hb2); (try clear hk); (try clear hi)))
    repeat (go_quiet (first | (go_at_call 54; (with_reducible refine (pipe_valid.calls _ _ l0_0 _ _ l0_1 _ _ l0_2 true _ ?side1 ?side2 ?side3 ?side4 ?side5 ?side6 A6.out).mono ?_); (case side1 => repeat (first | exact (Kd.C_below HR0_0.out HB.out) | (with_reducible refine Kd.C_alloc ?_ _) | (with_reducible refine Kd.C_drewN ?_ _) | (with_reducible refine Kd.C_drew ?_))); (case side2 => exact HC0_0.out); (case side3 => repeat (first | exact (Kd.C_below HR0_1.out HB.out) | (with_reducible refine Kd.C_alloc ?_ _) | (with_reducible refine Kd.C_drewN ?_ _) | (with_reducible refine Kd.C_drew ?_))); (case side4 => exact HC0_1.out); (case side5 => repeat (first | exact (Kd.C_below HR0_2.out HB.out) | (with_reducible refine Kd.C_alloc ?_ _) | (with_reducible refine Kd.C_drewN ?_ _) | (with_reducible refine Kd.C_drew ?_))); (case side6 => exact HC0_2.out); rintro e w12 ⟨rfl, hb⟩; have n0_ := Aside0.mk (blk_below (g := gb129) (o := .cells #[.slice A0_0 l0_0.length c0_0, .slice A0_1 l0_1.length c0_1, .slice A0_2 l0_2.length c0_2] 26 (0, 0)) (by (with_reducible repeat (first | refine blk_drewN ?_ _ | refine blk_drew ?_ | refine blk_alloc ?_ _)); exact BK129.out) hb); have n1_ := Aside0.mk (below_step (by repeat (first | (with_reducible first | exact HB.out | apply below_alloc | apply pw_below_drewN | apply below_drew1 | refine below_set ?_ GE129.out) | exact HB.out)) hb); clear BK129; clear HB; have BK129 := n0_; have HB := n1_; clear n0_ n1_; (try clear hb); (try clear hb2); (try clear hk); (try clear hi); have hcz13_0 : w12.cell? ⟨gb129, 0, none⟩ = some (.slice A0_0 l0_0.length c0_0) := (blk_cell BK129.out 0).trans rfl; have hcz13_1 : w12.cell? ⟨gb129, 1, none⟩ = some (.slice A0_1 l0_1.length c0_1) := (blk_cell BK129.out 1).trans rfl; have hcz13_2 : w12.cell? ⟨gb129, 2, none⟩ = some (.slice A0_2 l0_2.length c0_2) := (blk_cell BK129.out 2).trans rfl; have hfz13_0 := blk_frozen BK129.out 0; have hfz13_1 := blk_frozen BK129.out 1; have hfz13_2 := blk_frozen BK129.out 2) | (go_at_call 62; (with_reducible refine (pipe_place.calls _ _ l0_0 _ _ l0_1 _ _ l0_2 a1 true _ ?side1 ?side2 ?side3 ?side4 ?side5 ?side6 A8.out).mono ?_); (case side1 => repeat (first | exact (Kd.C_below HR0_0.out HB.out) | (with_reducible refine Kd.C_alloc ?_ _) | (with_reducible refine Kd.C_drewN ?_ _) | (with_reducible refine Kd.C_drew ?_))); (case side2 => exact HC0_0.out); (case side3 => repeat (first | exact (Kd.C_below HR0_1.out HB.out) | (with_reducible refine Kd.C_alloc ?_ _) | (with_reducible refine Kd.C_drewN ?_ _) | (with_reducible refine Kd.C_drew ?_))); (case side4 => exact HC0_1.out); (case side5 => repeat (first | exact (Kd.C_below HR0_2.out HB.out) | (with_reducible refine Kd.C_alloc ?_ _) | (with_reducible refine Kd.C_drewN ?_ _) | (with_reducible refine Kd.C_drew ?_))); (case side6 => exact HC0_2.out); rintro e w14 ⟨rfl, hb⟩; have n0_ := Aside0.mk (blk_below (g := gb129) (o := .cells #[.slice A0_0 l0_0.length c0_0, .slice A0_1 l0_1.length c0_1, .slice A0_2 l0_2.length c0_2] 26 (0, 0)) (by (with_reducible repeat (first | refine blk_drewN ?_ _ | refine blk_drew ?_ | refine blk_alloc ?_ _)); exact BK129.out) hb); have n1_ := Aside0.mk (below_step (by repeat (first | (with_reducible first | exact HB.out | apply below_alloc | apply pw_below_drewN | apply below_drew1 | refine below_set ?_ GE129.out) | exact HB.out)) hb); clear BK129; clear HB; have BK129 := n0_; have HB := n1_; clear n0_ n1_; (try clear hb); (try clear hb2); (try clear hk); (try clear hi); have hcz15_0 : w14.cell? ⟨gb129, 0, none⟩ = some (.slice A0_0 l0_0.length c0_0) := (blk_cell BK129.out 0).trans rfl; have hcz15_1 : w14.cell? ⟨gb129, 1, none⟩ = some (.slice A0_1 l0_1.length c0_1) := (blk_cell BK129.out 1).trans rfl; have hcz15_2 : w14.cell? ⟨gb129, 2, none⟩ = some (.slice A0_2 l0_2.length c0_2) := (blk_cell BK129.out 2).trans rfl; have hfz15_0 := blk_frozen BK129.out 0; have hfz15_1 := blk_frozen BK129.out 1; have hfz15_2 := blk_frozen BK129.out 2) | (go_at_call 63; (with_reducible refine (pipe_fault.calls _ _ l0_0 _ _ l0_1 _ _ l0_2 a2 t132 _ ?side1 ?side2 ?side3 ?side4 ?side5 ?side6 A10.out).mono ?_); (case side1 => repeat (first | exact (Kd.C_below HR0_0.out HB.out) | (with_reducible refine Kd.C_alloc ?_ _) | (with_reducible refine Kd.C_drewN ?_ _) | (with_reducible refine Kd.C_drew ?_))); (case side2 => exact HC0_0.out); (case side3 => repeat (first | exact (Kd.C_below HR0_1.out HB.out) | (with_reducible refine Kd.C_alloc ?_ _) | (with_reducible refine Kd.C_drewN ?_ _) | (with_reducible refine Kd.C_drew ?_))); (case side4 => exact HC0_1.out); (case side5 => repeat (first | exact (Kd.C_below HR0_2.out HB.out) | (with_reducible refine Kd.C_alloc ?_ _) | (with_reducible refine Kd.C_drewN ?_ _) | (with_reducible refine Kd.C_drew ?_))); (case side6 => exact HC0_2.out); rintro e w16 ⟨rfl, hb⟩; have n0_ := Aside0.mk (blk_below (g := gb129) (o := .cells #[.slice A0_0 l0_0.length c0_0, .slice A0_1 l0_1.length c0_1, .slice A0_2 l0_2.length c0_2] 26 (0, 0)) (by (with_reducible repeat (first | refine blk_drewN ?_ _ | refine blk_drew ?_ | refine blk_alloc ?_ _)); exact BK129.out) hb); have n1_ := Aside0.mk (below_step (by repeat (first | (with_reducible first | exact HB.out | apply below_alloc | apply pw_below_drewN | apply below_drew1 | refine below_set ?_ GE129.out) | exact HB.out)) hb); clear BK129; clear HB; have BK129 := n0_; have HB := n1_; clear n0_ n1_; (try clear hb); (try clear hb2); (try clear hk); (try clear hi))); try go_wp2_with (first | (go_at_call 54; (with_reducible refine (pipe_valid.calls _ _ l0_0 _ _ l0_1 _ _ l0_2 true _ ?side1 ?side2 ?side3 ?side4 ?side5 ?side6 A6.out).mono ?_); (case side1 => repeat (first | exact (Kd.C_below HR0_0.out HB.out) | (with_reducible refine Kd.C_alloc ?_ _) | (with_reducible refine Kd.C_drewN ?_ _) | (with_reducible refine Kd.C_drew ?_))); (case side2 => exact HC0_0.out); (case side3 => repeat (first | exact (Kd.C_below HR0_1.out HB.out) | (with_reducible refine Kd.C_alloc ?_ _) | (with_reducible refine Kd.C_drewN ?_ _) | (with_reducible refine Kd.C_drew ?_))); (case side4 => exact HC0_1.out); (case side5 => repeat (first | exact (Kd.C_below HR0_2.out HB.out) | (with_reducible refine Kd.C_alloc ?_ _) | (with_reducible refine Kd.C_drewN ?_ _) | (with_reducible refine Kd.C_drew ?_))); (case side6 => exact HC0_2.out); rintro e w12 ⟨rfl, hb⟩; have n0_ := Aside0.mk (blk_below (g := gb129) (o := .cells #[.slice A0_0 l0_0.length c0_0, .slice A0_1 l0_1.length c0_1, .slice A0_2 l0_2.length c0_2] 26 (0, 0)) (by (with_reducible repeat (first | refine blk_drewN ?_ _ | refine blk_drew ?_ | refine blk_alloc ?_ _)); exact BK129.out) hb); have n1_ := Aside0.mk (below_step (by repeat (first | (with_reducible first | exact HB.out | apply below_alloc | apply pw_below_drewN | apply below_drew1 | refine below_set ?_ GE129.out) | exact HB.out)) hb); clear BK129; clear HB; have BK129 := n0_; have HB := n1_; clear n0_ n1_; (try clear hb); (try clear hb2); (try clear hk); (try clear hi); have hcz13_0 : w12.cell? ⟨gb129, 0, none⟩ = some (.slice A0_0 l0_0.length c0_0) := (blk_cell BK129.out 0).trans rfl; have hcz13_1 : w12.cell? ⟨gb129, 1, none⟩ = some (.slice A0_1 l0_1.length c0_1) := (blk_cell BK129.out 1).trans rfl; have hcz13_2 : w12.cell? ⟨gb129, 2, none⟩ = some (.slice A0_2 l0_2.length c0_2) := (blk_cell BK129.out 2).trans rfl; have hfz13_0 := blk_frozen BK129.out 0; have hfz13_1 := blk_frozen BK129.out 1; have hfz13_2 := blk_frozen BK129.out 2) | (go_at_call 62; (with_reducible refine (pipe_place.calls _ _ l0_0 _ _ l0_1 _ _ l0_2 a1 true _ ?side1 ?side2 ?side3 ?side4 ?side5 ?side6 A8.out).mono ?_); (case side1 => repeat (first | exact (Kd.C_below HR0_0.out HB.out) | (with_reducible refine Kd.C_alloc ?_ _) | (with_reducible refine Kd.C_drewN ?_ _) | (with_reducible refine Kd.C_drew ?_))); (case side2 => exact HC0_0.out); (case side3 => repeat (first | exact (Kd.C_below HR0_1.out HB.out) | (with_reducible refine Kd.C_alloc ?_ _) | (with_reducible refine Kd.C_drewN ?_ _) | (with_reducible refine Kd.C_drew ?_))); (case side4 => exact HC0_1.out); (case side5 => repeat (first | exact (Kd.C_below HR0_2.out HB.out) | (with_reducible refine Kd.C_alloc ?_ _) | (with_reducible refine Kd.C_drewN ?_ _) | (with_reducible refine Kd.C_drew ?_))); (case side6 => exact HC0_2.out); rintro e w14 ⟨rfl, hb⟩; have n0_ := Aside0.mk (blk_below (g := gb129) (o := .cells #[.slice A0_0 l0_0.length c0_0, .slice A0_1 l0_1.length c0_1, .slice A0_2 l0_2.length c0_2] 26 (0, 0)) (by (with_reducible repeat (first | refine blk_drewN ?_ _ | refine blk_drew ?_ | refine blk_alloc ?_ _)); exact BK129.out) hb); have n1_ := Aside0.mk (below_step (by repeat (first | (with_reducible first | exact HB.out | apply below_alloc | apply pw_below_drewN | apply below_drew1 | refine below_set ?_ GE129.out) | exact HB.out)) hb); clear BK129; clear HB; have BK129 := n0_; have HB := n1_; clear n0_ n1_; (try clear hb); (try clear hb2); (try clear hk); (try clear hi); have hcz15_0 : w14.cell? ⟨gb129, 0, none⟩ = some (.slice A0_0 l0_0.length c0_0) := (blk_cell BK129.out 0).trans rfl; have hcz15_1 : w14.cell? ⟨gb129, 1, none⟩ = some (.slice A0_1 l0_1.length c0_1) := (blk_cell BK129.out 1).trans rfl; have hcz15_2 : w14.cell? ⟨gb129, 2, none⟩ = some (.slice A0_2 l0_2.length c0_2) := (blk_cell BK129.out 2).trans rfl; have hfz15_0 := blk_frozen BK129.out 0; have hfz15_1 := blk_frozen BK129.out 1; have hfz15_2 := blk_frozen BK129.out 2) | (go_at_call 63; (with_reducible refine (pipe_fault.calls _ _ l0_0 _ _ l0_1 _ _ l0_2 a2 t132 _ ?side1 ?side2 ?side3 ?side4 ?side5 ?side6 A10.out).mono ?_); (case side1 => repeat (first | exact (Kd.C_below HR0_0.out HB.out) | (with_reducible refine Kd.C_alloc ?_ _) | (with_reducible refine Kd.C_drewN ?_ _) | (with_reducible refine Kd.C_drew ?_))); (case side2 => exact HC0_0.out); (case side3 => repeat (first | exact (Kd.C_below HR0_1.out HB.out) | (with_reducible refine Kd.C_alloc ?_ _) | (with_reducible refine Kd.C_drewN ?_ _) | (with_reducible refine Kd.C_drew ?_))); (case side4 => exact HC0_1.out); (case side5 => repeat (first | exact (Kd.C_below HR0_2.out HB.out) | (with_reducible refine Kd.C_alloc ?_ _) | (with_reducible refine Kd.C_drewN ?_ _) | (with_reducible refine Kd.C_drew ?_))); (case side6 => exact HC0_2.out); rintro e w16 ⟨rfl, hb⟩; have n0_ := Aside0.mk (blk_below (g := gb129) (o := .cells #[.slice A0_0 l0_0.length c0_0, .slice A0_1 l0_1.length c0_1, .slice A0_2 l0_2.length c0_2] 26 (0, 0)) (by (with_reducible repeat (first | refine blk_drewN ?_ _ | refine blk_drew ?_ | refine blk_alloc ?_ _)); exact BK129.out) hb); have n1_ := Aside0.mk (below_step (by repeat (first | (with_reducible first | exact HB.out | apply below_alloc | apply pw_below_drewN | apply below_drew1 | refine below_set ?_ GE129.out) | exact HB.out)) hb); clear BK129; clear HB; have BK129 := n0_; have HB := n1_; clear n0_ n1_; (try clear hb); (try clear hb2); (try clear hk); (try clear hi))))
    go_meet
    case rel => exact ⟨_, (!t132), (by first | rfl | (simp; done) | (simp [*]; done)), H', ⟨by first | omega | exact Nat.le_refl _⟩, ⟨by (with_reducible repeat (first | refine blk_drewN ?_ _ | refine blk_drew ?_ | refine blk_alloc ?_ _)); exact BK129.out⟩, ⟨by repeat (first | (with_reducible first | exact HB.out | apply below_alloc | apply pw_below_drewN | apply below_drew1 | refine below_set ?_ GE129.out) | exact HB.out)⟩⟩
   ·
    replace c9 := Bool.eq_false_iff.mpr c9
    subst c9
    have H1 : (pipe_Order.j0 k a1 a2 true l0_0 l0_1 l0_2) = some (r1, r2, r3) := by rw [if_neg (show ¬ (false = true) by decide)] at H; exact H
    clear H
    have H := H1
    clear H1
    have H' := Aside0.mk H
    clear H
    have hcz17_0 : w5.cell? ⟨gb129, 0, none⟩ = some (.slice A0_0 l0_0.length c0_0) := (blk_cell BK129.out 0).trans rfl
    have hcz17_1 : w5.cell? ⟨gb129, 1, none⟩ = some (.slice A0_1 l0_1.length c0_1) := (blk_cell BK129.out 1).trans rfl
    have hcz17_2 : w5.cell? ⟨gb129, 2, none⟩ = some (.slice A0_2 l0_2.length c0_2) := (blk_cell BK129.out 2).trans rfl
    have hfz17_0 := blk_frozen BK129.out 0
    have hfz17_1 := blk_frozen BK129.out 1
    have hfz17_2 := blk_frozen BK129.out 2
    go_wp2_with (first | (go_at_call 54; (with_reducible refine (pipe_valid.calls _ _ l0_0 _ _ l0_1 _ _ l0_2 true _ ?side1 ?side2 ?side3 ?side4 ?side5 ?side6 A6.out).mono ?_); (case side1 => repeat (first | exact (Kd.C_below HR0_0.out HB.out) | (with_reducible refine Kd.C_alloc ?_ _) | (with_reducible refine Kd.C_drewN ?_ _) | (with_reducible refine Kd.C_drew ?_))); (case side2 => exact HC0_0.out); (case side3 => repeat (first | exact (Kd.C_below HR0_1.out HB.out) | (with_reducible refine Kd.C_alloc ?_ _) | (with_reducible refine Kd.C_drewN ?_ _) | (with_reducible refine Kd.C_drew ?_))); (case side4 => exact HC0_1.out); (case side5 => repeat (first | exact (Kd.C_below HR0_2.out HB.out) | (with_reducible refine Kd.C_alloc ?_ _) | (with_reducible refine Kd.C_drewN ?_ _) | (with_reducible refine Kd.C_drew ?_))); (case side6 => exact HC0_2.out); rintro e w18 ⟨rfl, hb⟩; have n0_ := Aside0.mk (blk_below (g := gb129) (o := .cells #[.slice A0_0 l0_0.length c0_0, .slice A0_1 l0_1.length c0_1, .slice A0_2 l0_2.length c0_2] 26 (0, 0)) (by (with_reducible repeat (first | refine blk_drewN ?_ _ | refine blk_drew ?_ | refine blk_alloc ?_ _)); exact BK129.out) hb); have n1_ := Aside0.mk (below_step (by repeat (first | (with_reducible first | exact HB.out | apply below_alloc | apply pw_below_drewN | apply below_drew1 | refine below_set ?_ GE129.out) | exact HB.out)) hb); clear BK129; clear HB; have BK129 := n0_; have HB := n1_; clear n0_ n1_; (try clear hb); (try clear hb2); (try clear hk); (try clear hi); have hcz19_0 : w18.cell? ⟨gb129, 0, none⟩ = some (.slice A0_0 l0_0.length c0_0) := (blk_cell BK129.out 0).trans rfl; have hcz19_1 : w18.cell? ⟨gb129, 1, none⟩ = some (.slice A0_1 l0_1.length c0_1) := (blk_cell BK129.out 1).trans rfl; have hcz19_2 : w18.cell? ⟨gb129, 2, none⟩ = some (.slice A0_2 l0_2.length c0_2) := (blk_cell BK129.out 2).trans rfl; have hfz19_0 := blk_frozen BK129.out 0; have hfz19_1 := blk_frozen BK129.out 1; have hfz19_2 := blk_frozen BK129.out 2) | (go_at_call 62; (with_reducible refine (pipe_place.calls _ _ l0_0 _ _ l0_1 _ _ l0_2 a1 false _ ?side1 ?side2 ?side3 ?side4 ?side5 ?side6 A8.out).mono ?_); (case side1 => repeat (first | exact (Kd.C_below HR0_0.out HB.out) | (with_reducible refine Kd.C_alloc ?_ _) | (with_reducible refine Kd.C_drewN ?_ _) | (with_reducible refine Kd.C_drew ?_))); (case side2 => exact HC0_0.out); (case side3 => repeat (first | exact (Kd.C_below HR0_1.out HB.out) | (with_reducible refine Kd.C_alloc ?_ _) | (with_reducible refine Kd.C_drewN ?_ _) | (with_reducible refine Kd.C_drew ?_))); (case side4 => exact HC0_1.out); (case side5 => repeat (first | exact (Kd.C_below HR0_2.out HB.out) | (with_reducible refine Kd.C_alloc ?_ _) | (with_reducible refine Kd.C_drewN ?_ _) | (with_reducible refine Kd.C_drew ?_))); (case side6 => exact HC0_2.out); rintro e w20 ⟨rfl, hb⟩; have n0_ := Aside0.mk (blk_below (g := gb129) (o := .cells #[.slice A0_0 l0_0.length c0_0, .slice A0_1 l0_1.length c0_1, .slice A0_2 l0_2.length c0_2] 26 (0, 0)) (by (with_reducible repeat (first | refine blk_drewN ?_ _ | refine blk_drew ?_ | refine blk_alloc ?_ _)); exact BK129.out) hb); have n1_ := Aside0.mk (below_step (by repeat (first | (with_reducible first | exact HB.out | apply below_alloc | apply pw_below_drewN | apply below_drew1 | refine below_set ?_ GE129.out) | exact HB.out)) hb); clear BK129; clear HB; have BK129 := n0_; have HB := n1_; clear n0_ n1_; (try clear hb); (try clear hb2); (try clear hk); (try clear hi)))
    repeat (go_quiet (first | (go_at_call 54; (with_reducible refine (pipe_valid.calls _ _ l0_0 _ _ l0_1 _ _ l0_2 true _ ?side1 ?side2 ?side3 ?side4 ?side5 ?side6 A6.out).mono ?_); (case side1 => repeat (first | exact (Kd.C_below HR0_0.out HB.out) | (with_reducible refine Kd.C_alloc ?_ _) | (with_reducible refine Kd.C_drewN ?_ _) | (with_reducible refine Kd.C_drew ?_))); (case side2 => exact HC0_0.out); (case side3 => repeat (first | exact (Kd.C_below HR0_1.out HB.out) | (with_reducible refine Kd.C_alloc ?_ _) | (with_reducible refine Kd.C_drewN ?_ _) | (with_reducible refine Kd.C_drew ?_))); (case side4 => exact HC0_1.out); (case side5 => repeat (first | exact (Kd.C_below HR0_2.out HB.out) | (with_reducible refine Kd.C_alloc ?_ _) | (with_reducible refine Kd.C_drewN ?_ _) | (with_reducible refine Kd.C_drew ?_))); (case side6 => exact HC0_2.out); rintro e w18 ⟨rfl, hb⟩; have n0_ := Aside0.mk (blk_below (g := gb129) (o := .cells #[.slice A0_0 l0_0.length c0_0, .slice A0_1 l0_1.length c0_1, .slice A0_2 l0_2.length c0_2] 26 (0, 0)) (by (with_reducible repeat (first | refine blk_drewN ?_ _ | refine blk_drew ?_ | refine blk_alloc ?_ _)); exact BK129.out) hb); have n1_ := Aside0.mk (below_step (by repeat (first | (with_reducible first | exact HB.out | apply below_alloc | apply pw_below_drewN | apply below_drew1 | refine below_set ?_ GE129.out) | exact HB.out)) hb); clear BK129; clear HB; have BK129 := n0_; have HB := n1_; clear n0_ n1_; (try clear hb); (try clear hb2); (try clear hk); (try clear hi); have hcz19_0 : w18.cell? ⟨gb129, 0, none⟩ = some (.slice A0_0 l0_0.length c0_0) := (blk_cell BK129.out 0).trans rfl; have hcz19_1 : w18.cell? ⟨gb129, 1, none⟩ = some (.slice A0_1 l0_1.length c0_1) := (blk_cell BK129.out 1).trans rfl; have hcz19_2 : w18.cell? ⟨gb129, 2, none⟩ = some (.slice A0_2 l0_2.length c0_2) := (blk_cell BK129.out 2).trans rfl; have hfz19_0 := blk_frozen BK129.out 0; have hfz19_1 := blk_frozen BK129.out 1; have hfz19_2 := blk_frozen BK129.out 2) | (go_at_call 62; (with_reducible refine (pipe_place.calls _ _ l0_0 _ _ l0_1 _ _ l0_2 a1 false _ ?side1 ?side2 ?side3 ?side4 ?side5 ?side6 A8.out).mono ?_); (case side1 => repeat (first | exact (Kd.C_below HR0_0.out HB.out) | (with_reducible refine Kd.C_alloc ?_ _) | (with_reducible refine Kd.C_drewN ?_ _) | (with_reducible refine Kd.C_drew ?_))); (case side2 => exact HC0_0.out); (case side3 => repeat (first | exact (Kd.C_below HR0_1.out HB.out) | (with_reducible refine Kd.C_alloc ?_ _) | (with_reducible refine Kd.C_drewN ?_ _) | (with_reducible refine Kd.C_drew ?_))); (case side4 => exact HC0_1.out); (case side5 => repeat (first | exact (Kd.C_below HR0_2.out HB.out) | (with_reducible refine Kd.C_alloc ?_ _) | (with_reducible refine Kd.C_drewN ?_ _) | (with_reducible refine Kd.C_drew ?_))); (case side6 => exact HC0_2.out); rintro e w20 ⟨rfl, hb⟩; have n0_ := Aside0.mk (blk_below (g := gb129) (o := .cells #[.slice A0_0 l0_0.length c0_0, .slice A0_1 l0_1.length c0_1, .slice A0_2 l0_2.length c0_2] 26 (0, 0)) (by (with_reducible repeat (first | refine blk_drewN ?_ _ | refine blk_drew ?_ | refine blk_alloc ?_ _)); exact BK129.out) hb); have n1_ := Aside0.mk (below_step (by repeat (first | (with_reducible first | exact HB.out | apply below_alloc | apply pw_below_drewN | apply below_drew1 | refine below_set ?_ GE129.out) | exact HB.out)) hb); clear BK129; clear HB; have BK129 := n0_; have HB := n1_; clear n0_ n1_; (try clear hb); (try clear hb2); (try clear hk); (try clear hi))); try go_wp2_with (first | (go_at_call 54; (with_reducible refine (pipe_valid.calls _ _ l0_0 _ _ l0_1 _ _ l0_2 true _ ?side1 ?side2 ?side3 ?side4 ?side5 ?side6 A6.out).mono ?_); (case side1 => repeat (first | exact (Kd.C_below HR0_0.out HB.out) | (with_reducible refine Kd.C_alloc ?_ _) | (with_reducible refine Kd.C_drewN ?_ _) | (with_reducible refine Kd.C_drew ?_))); (case side2 => exact HC0_0.out); (case side3 => repeat (first | exact (Kd.C_below HR0_1.out HB.out) | (with_reducible refine Kd.C_alloc ?_ _) | (with_reducible refine Kd.C_drewN ?_ _) | (with_reducible refine Kd.C_drew ?_))); (case side4 => exact HC0_1.out); (case side5 => repeat (first | exact (Kd.C_below HR0_2.out HB.out) | (with_reducible refine Kd.C_alloc ?_ _) | (with_reducible refine Kd.C_drewN ?_ _) | (with_reducible refine Kd.C_drew ?_))); (case side6 => exact HC0_2.out); rintro e w18 ⟨rfl, hb⟩; have n0_ := Aside0.mk (blk_below (g := gb129) (o := .cells #[.slice A0_0 l0_0.length c0_0, .slice A0_1 l0_1.length c0_1, .slice A0_2 l0_2.length c0_2] 26 (0, 0)) (by (with_reducible repeat (first | refine blk_drewN ?_ _ | refine blk_drew ?_ | refine blk_alloc ?_ _)); exact BK129.out) hb); have n1_ := Aside0.mk (below_step (by repeat (first | (with_reducible first | exact HB.out | apply below_alloc | apply pw_below_drewN | apply below_drew1 | refine below_set ?_ GE129.out) | exact HB.out)) hb); clear BK129; clear HB; have BK129 := n0_; have HB := n1_; clear n0_ n1_; (try clear hb); (try clear hb2); (try clear hk); (try clear hi); have hcz19_0 : w18.cell? ⟨gb129, 0, none⟩ = some (.slice A0_0 l0_0.length c0_0) := (blk_cell BK129.out 0).trans rfl; have hcz19_1 : w18.cell? ⟨gb129, 1, none⟩ = some (.slice A0_1 l0_1.length c0_1) := (blk_cell BK129.out 1).trans rfl; have hcz19_2 : w18.cell? ⟨gb129, 2, none⟩ = some (.slice A0_2 l0_2.length c0_2) := (blk_cell BK129.out 2).trans rfl; have hfz19_0 := blk_frozen BK129.out 0; have hfz19_1 := blk_frozen BK129.out 1; have hfz19_2 := blk_frozen BK129.out 2) | (go_at_call 62; (with_reducible refine (pipe_place.calls _ _ l0_0 _ _ l0_1 _ _ l0_2 a1 false _ ?side1 ?side2 ?side3 ?side4 ?side5 ?side6 A8.out).mono ?_); (case side1 => repeat (first | exact (Kd.C_below HR0_0.out HB.out) | (with_reducible refine Kd.C_alloc ?_ _) | (with_reducible refine Kd.C_drewN ?_ _) | (with_reducible refine Kd.C_drew ?_))); (case side2 => exact HC0_0.out); (case side3 => repeat (first | exact (Kd.C_below HR0_1.out HB.out) | (with_reducible refine Kd.C_alloc ?_ _) | (with_reducible refine Kd.C_drewN ?_ _) | (with_reducible refine Kd.C_drew ?_))); (case side4 => exact HC0_1.out); (case side5 => repeat (first | exact (Kd.C_below HR0_2.out HB.out) | (with_reducible refine Kd.C_alloc ?_ _) | (with_reducible refine Kd.C_drewN ?_ _) | (with_reducible refine Kd.C_drew ?_))); (case side6 => exact HC0_2.out); rintro e w20 ⟨rfl, hb⟩; have n0_ := Aside0.mk (blk_below (g := gb129) (o := .cells #[.slice A0_0 l0_0.length c0_0, .slice A0_1 l0_1.length c0_1, .slice A0_2 l0_2.length c0_2] 26 (0, 0)) (by (with_reducible repeat (first | refine blk_drewN ?_ _ | refine blk_drew ?_ | refine blk_alloc ?_ _)); exact BK129.out) hb); have n1_ := Aside0.mk (below_step (by repeat (first | (with_reducible first | exact HB.out | apply below_alloc | apply pw_below_drewN | apply below_drew1 | refine below_set ?_ GE129.out) | exact HB.out)) hb); clear BK129; clear HB; have BK129 := n0_; have HB := n1_; clear n0_ n1_; (try clear hb); (try clear hb2); (try clear hk); (try clear hi))))
    go_meet
    case rel => exact ⟨_, (true), (by first | rfl | (simp; done) | (simp [*]; done)), H', ⟨by first | omega | exact Nat.le_refl _⟩, ⟨by (with_reducible repeat (first | refine blk_drewN ?_ _ | refine blk_drew ?_ | refine blk_alloc ?_ _)); exact BK129.out⟩, ⟨by repeat (first | (with_reducible first | exact HB.out | apply below_alloc | apply pw_below_drewN | apply below_drew1 | refine below_set ?_ GE129.out) | exact HB.out)⟩⟩
  ·
   replace c7 := Bool.eq_false_iff.mpr c7
   subst c7
   have H1 : (pipe_Order.j0 k a1 a2 true l0_0 l0_1 l0_2) = some (r1, r2, r3) := by rw [if_neg (show ¬ (false = true) by decide)] at H; exact H
   clear H
   have H := H1
   clear H1
   have H' := Aside0.mk H
   clear H
   have hcz21_0 : w5.cell? ⟨gb129, 0, none⟩ = some (.slice A0_0 l0_0.length c0_0) := (blk_cell BK129.out 0).trans rfl
   have hcz21_1 : w5.cell? ⟨gb129, 1, none⟩ = some (.slice A0_1 l0_1.length c0_1) := (blk_cell BK129.out 1).trans rfl
   have hcz21_2 : w5.cell? ⟨gb129, 2, none⟩ = some (.slice A0_2 l0_2.length c0_2) := (blk_cell BK129.out 2).trans rfl
   have hfz21_0 := blk_frozen BK129.out 0
   have hfz21_1 := blk_frozen BK129.out 1
   have hfz21_2 := blk_frozen BK129.out 2
   go_wp2_with (first | (go_at_call 54; (with_reducible refine (pipe_valid.calls _ _ l0_0 _ _ l0_1 _ _ l0_2 false _ ?side1 ?side2 ?side3 ?side4 ?side5 ?side6 A6.out).mono ?_); (case side1 => repeat (first | exact (Kd.C_below HR0_0.out HB.out) | (with_reducible refine Kd.C_alloc ?_ _) | (with_reducible refine Kd.C_drewN ?_ _) | (with_reducible refine Kd.C_drew ?_))); (case side2 => exact HC0_0.out); (case side3 => repeat (first | exact (Kd.C_below HR0_1.out HB.out) | (with_reducible refine Kd.C_alloc ?_ _) | (with_reducible refine Kd.C_drewN ?_ _) | (with_reducible refine Kd.C_drew ?_))); (case side4 => exact HC0_1.out); (case side5 => repeat (first | exact (Kd.C_below HR0_2.out HB.out) | (with_reducible refine Kd.C_alloc ?_ _) | (with_reducible refine Kd.C_drewN ?_ _) | (with_reducible refine Kd.C_drew ?_))); (case side6 => exact HC0_2.out); rintro e w22 ⟨rfl, hb⟩; have n0_ := Aside0.mk (blk_below (g := gb129) (o := .cells #[.slice A0_0 l0_0.length c0_0, .slice A0_1 l0_1.length c0_1, .slice A0_2 l0_2.length c0_2] 26 (0, 0)) (by (with_reducible repeat (first | refine blk_drewN ?_ _ | refine blk_drew ?_ | refine blk_alloc ?_ _)); exact BK129.out) hb); have n1_ := Aside0.mk (below_step (by repeat (first | (with_reducible first | exact HB.out | apply below_alloc | apply pw_below_drewN | apply below_drew1 | refine below_set ?_ GE129.out) | exact HB.out)) hb); clear BK129; clear HB; have BK129 := n0_; have HB := n1_; clear n0_ n1_; (try clear hb); (try clear hb2); (try clear hk); (try clear hi)))
   repeat (go_quiet (first | (go_at_call 54; (with_reducible refine (pipe_valid.calls _ _ l0_0 _ _ l0_1 _ _ l0_2 false _ ?side1 ?side2 ?side3 ?side4 ?side5 ?side6 A6.out).mono ?_); (case side1 => repeat (first | exact (Kd.C_below HR0_0.out HB.out) | (with_reducible refine Kd.C_alloc ?_ _) | (with_reducible refine Kd.C_drewN ?_ _) | (with_reducible refine Kd.C_drew ?_))); (case side2 => exact HC0_0.out); (case side3 => repeat (first | exact (Kd.C_below HR0_1.out HB.out) | (with_reducible refine Kd.C_alloc ?_ _) | (with_reducible refine Kd.C_drewN ?_ _) | (with_reducible refine Kd.C_drew ?_))); (case side4 => exact HC0_1.out); (case side5 => repeat (first | exact (Kd.C_below HR0_2.out HB.out) | (with_reducible refine Kd.C_alloc ?_ _) | (with_reducible refine Kd.C_drewN ?_ _) | (with_reducible refine Kd.C_drew ?_))); (case side6 => exact HC0_2.out); rintro e w22 ⟨rfl, hb⟩; have n0_ := Aside0.mk (blk_below (g := gb129) (o := .cells #[.slice A0_0 l0_0.length c0_0, .slice A0_1 l0_1.length c0_1, .slice A0_2 l0_2.length c0_2] 26 (0, 0)) (by (with_reducible repeat (first | refine blk_drewN ?_ _ | refine blk_drew ?_ | refine blk_alloc ?_ _)); exact BK129.out) hb); have n1_ := Aside0.mk (below_step (by repeat (first | (with_reducible first | exact HB.out | apply below_alloc | apply pw_below_drewN | apply below_drew1 | refine below_set ?_ GE129.out) | exact HB.out)) hb); clear BK129; clear HB; have BK129 := n0_; have HB := n1_; clear n0_ n1_; (try clear hb); (try clear hb2); (try clear hk); (try clear hi))); try go_wp2_with (first | (go_at_call 54; (with_reducible refine (pipe_valid.calls _ _ l0_0 _ _ l0_1 _ _ l0_2 false _ ?side1 ?side2 ?side3 ?side4 ?side5 ?side6 A6.out).mono ?_); (case side1 => repeat (first | exact (Kd.C_below HR0_0.out HB.out) | (with_reducible refine Kd.C_alloc ?_ _) | (with_reducible refine Kd.C_drewN ?_ _) | (with_reducible refine Kd.C_drew ?_))); (case side2 => exact HC0_0.out); (case side3 => repeat (first | exact (Kd.C_below HR0_1.out HB.out) | (with_reducible refine Kd.C_alloc ?_ _) | (with_reducible refine Kd.C_drewN ?_ _) | (with_reducible refine Kd.C_drew ?_))); (case side4 => exact HC0_1.out); (case side5 => repeat (first | exact (Kd.C_below HR0_2.out HB.out) | (with_reducible refine Kd.C_alloc ?_ _) | (with_reducible refine Kd.C_drewN ?_ _) | (with_reducible refine Kd.C_drew ?_))); (case side6 => exact HC0_2.out); rintro e w22 ⟨rfl, hb⟩; have n0_ := Aside0.mk (blk_below (g := gb129) (o := .cells #[.slice A0_0 l0_0.length c0_0, .slice A0_1 l0_1.length c0_1, .slice A0_2 l0_2.length c0_2] 26 (0, 0)) (by (with_reducible repeat (first | refine blk_drewN ?_ _ | refine blk_drew ?_ | refine blk_alloc ?_ _)); exact BK129.out) hb); have n1_ := Aside0.mk (below_step (by repeat (first | (with_reducible first | exact HB.out | apply below_alloc | apply pw_below_drewN | apply below_drew1 | refine below_set ?_ GE129.out) | exact HB.out)) hb); clear BK129; clear HB; have BK129 := n0_; have HB := n1_; clear n0_ n1_; (try clear hb); (try clear hb2); (try clear hk); (try clear hi))))
   go_meet
   case rel => exact ⟨_, (true), (by first | rfl | (simp; done) | (simp [*]; done)), H', ⟨by first | omega | exact Nat.le_refl _⟩, ⟨by (with_reducible repeat (first | refine blk_drewN ?_ _ | refine blk_drew ?_ | refine blk_alloc ?_ _)); exact BK129.out⟩, ⟨by repeat (first | (with_reducible first | exact HB.out | apply below_alloc | apply pw_below_drewN | apply below_drew1 | refine below_set ?_ GE129.out) | exact HB.out)⟩⟩
 case rest =>
  clear HC4
  try clear c2
  try clear p2
  try clear c7
  try clear c9
  try clear hcz11_0
  try clear hcz11_1
  try clear hcz11_2
  try clear hcz13_0
  try clear hcz13_1
  try clear hcz13_2
  try clear hcz15_0
  try clear hcz15_1
  try clear hcz15_2
  try clear hcz17_0
  try clear hcz17_1
  try clear hcz17_2
  try clear hcz19_0
  try clear hcz19_1
  try clear hcz19_2
  try clear hcz21_0
  try clear hcz21_1
  try clear hcz21_2
  try clear hfz11_0
  try clear hfz11_1
  try clear hfz11_2
  try clear hfz13_0
  try clear hfz13_1
  try clear hfz13_2
  try clear hfz15_0
  try clear hfz15_1
  try clear hfz15_2
  try clear hfz17_0
  try clear hfz17_1
  try clear hfz17_2
  try clear hfz19_0
  try clear hfz19_1
  try clear hfz19_2
  try clear hfz21_0
  try clear hfz21_1
  try clear hfz21_2
  obtain ⟨kq, x24_3, rfl, HA, HJ3, BK129, HB⟩ := hcut
  cases kq with
  | zero => exact absurd HA.out (by simp [pipe_Order.j0])
  | succ kj3 =>
   have H := HA.out
   clear HA
   simp only [pipe_Order.j0] at H
   by_cases c23 : x24_3 = true
   ·
    subst c23
    have H1 : (some (([] : List Int), 0, 2)) = some (r1, r2, r3) := by rw [if_pos rfl] at H; exact H
    clear H
    have H := H1
    clear H1
    simp only [Option.some.injEq, Prod.mk.injEq] at H
    obtain ⟨rfl, rfl, rfl⟩ := H
    go_wp2
    repeat (go_quiet (fail); try go_wp2)
    go_ret3
    exact ⟨_, by first | rfl | (simp [errW_none, errW_some] <;> rfl) | (simp [*, errW_none, errW_some] <;> rfl), by first | exact Kd.R_nil _ _ _ _ _ | exact Kd.N_nil _ _ _ _ _ | exact Kd.V_nil _ _ _ _ _ | exact Kd.Q_nil _ _ _ _ _ | exact Kd.S_nil _ _ _ _ _, by repeat (first | (with_reducible first | exact HB.out | apply below_alloc | apply pw_below_drewN | apply below_drew1 | refine below_set ?_ GE129.out) | exact HB.out)⟩
   ·
    replace c23 := Bool.eq_false_iff.mpr c23
    subst c23
    have H1 : ((pipe_net_order.f l0_0 l0_1 l0_2 0 a1 a2).bind fun bt133 => (if bt133.2.2 = true then (some (bt133.1, bt133.2.1, 0)) else (some (([] : List Int), 0, 5)))) = some (r1, r2, r3) := by rw [if_neg (show ¬ (false = true) by decide)] at H; exact H
    clear H
    have H := H1
    clear H1
    replace H := Option.bind_eq_some_iff.mp H
    obtain ⟨⟨t133, t136, t137⟩, A240, H⟩ := H
    replace H : (if t137 = true then (some (t133, t136, 0)) else (some (([] : List Int), 0, 5))) = some (r1, r2, r3) := H
    have A24 := Aside0.mk A240
    clear A240
    by_cases c25 : t137 = true
    ·
     subst c25
     have H1 : (some (t133, t136, 0)) = some (r1, r2, r3) := by rw [if_pos rfl] at H; exact H
     clear H
     have H := H1
     clear H1
     simp only [Option.some.injEq, Prod.mk.injEq] at H
     obtain ⟨rfl, rfl, rfl⟩ := H
     have hcz26_0 : wc.cell? ⟨gb129, 0, none⟩ = some (.slice A0_0 l0_0.length c0_0) := (blk_cell BK129.out 0).trans rfl
     have hcz26_1 : wc.cell? ⟨gb129, 1, none⟩ = some (.slice A0_1 l0_1.length c0_1) := (blk_cell BK129.out 1).trans rfl
     have hcz26_2 : wc.cell? ⟨gb129, 2, none⟩ = some (.slice A0_2 l0_2.length c0_2) := (blk_cell BK129.out 2).trans rfl
     have hfz26_0 := blk_frozen BK129.out 0
     have hfz26_1 := blk_frozen BK129.out 1
     have hfz26_2 := blk_frozen BK129.out 2
     go_wp2_with (first | (go_at_call 64; (with_reducible refine (pipe_net_order.calls _ _ l0_0 _ _ l0_1 _ _ l0_2 0 a1 a2 t133 t136 true _ ?side1 ?side2 ?side3 ?side4 ?side5 ?side6 A24.out).mono ?_); (case side1 => repeat (first | exact (Kd.C_below HR0_0.out HB.out) | (with_reducible refine Kd.C_alloc ?_ _) | (with_reducible refine Kd.C_drewN ?_ _) | (with_reducible refine Kd.C_drew ?_))); (case side2 => exact HC0_0.out); (case side3 => repeat (first | exact (Kd.C_below HR0_1.out HB.out) | (with_reducible refine Kd.C_alloc ?_ _) | (with_reducible refine Kd.C_drewN ?_ _) | (with_reducible refine Kd.C_drew ?_))); (case side4 => exact HC0_1.out); (case side5 => repeat (first | exact (Kd.C_below HR0_2.out HB.out) | (with_reducible refine Kd.C_alloc ?_ _) | (with_reducible refine Kd.C_drewN ?_ _) | (with_reducible refine Kd.C_drew ?_))); (case side6 => exact HC0_2.out); rintro e w27 ⟨v134, rfl, ho0, hb⟩; have n0_ := Aside0.mk (Kd.R_lower ho0 (below_size (by repeat (first | (with_reducible first | exact HB.out | apply below_alloc | apply pw_below_drewN | apply below_drew1 | refine below_set ?_ GE129.out) | exact HB.out)))); have n1_ := Aside0.mk (blk_below (g := gb129) (o := .cells #[.slice A0_0 l0_0.length c0_0, .slice A0_1 l0_1.length c0_1, .slice A0_2 l0_2.length c0_2] 26 (0, 0)) (by (with_reducible repeat (first | refine blk_drewN ?_ _ | refine blk_drew ?_ | refine blk_alloc ?_ _)); exact BK129.out) hb); have n2_ := Aside0.mk (below_step (by repeat (first | (with_reducible first | exact HB.out | apply below_alloc | apply pw_below_drewN | apply below_drew1 | refine below_set ?_ GE129.out) | exact HB.out)) hb); clear BK129; clear HB; have HO135 := n0_; have BK129 := n1_; have HB := n2_; clear n0_ n1_ n2_; (try clear hb); (try clear hb2); (try clear hk); (try clear hi); (try clear ho0)) | ((with_reducible refine gate_dst (N := 9) rfl ?_); refine box_event ?hg (N := 9) ?hd (cs := #[.slice none 0 0, .int .i64 0, .bool false]) (t := 97) ?hr ?_; (case hd => rfl); (case hg => rfl); (case hr => first | (go_simp; done) | (go_simp; rfl)); intro gb138 hg w28 hbox hb; have n0_ := Aside0.mk (Kd.R_below (by (with_reducible repeat (first | apply Kd.R_alloc | apply Kd.R_drewN | apply Kd.R_drew)); exact HO135.out) hb); have n1_ := Aside0.mk (blk_below (g := gb129) (o := .cells #[.slice A0_0 l0_0.length c0_0, .slice A0_1 l0_1.length c0_1, .slice A0_2 l0_2.length c0_2] 26 (0, 0)) (by (with_reducible repeat (first | refine blk_drewN ?_ _ | refine blk_drew ?_ | refine blk_alloc ?_ _)); exact BK129.out) hb); have n2_ := Aside0.mk (below_step (by repeat (first | (with_reducible first | exact HB.out | apply below_alloc | apply pw_below_drewN | apply below_drew1 | refine below_set ?_ GE129.out) | exact HB.out)) hb); have n3_ := Aside0.mk (hbox); have n4_ := Aside0.mk ((by rw [hg]; exact (below_size (by repeat (first | (with_reducible first | exact HB.out | apply below_alloc | apply pw_below_drewN | apply below_drew1 | refine below_set ?_ GE129.out) | exact HB.out))) : w.heap.size ≤ gb138)); have n5_ := Aside0.mk ((by rw [hg]; exact (below_size (by repeat (first | (with_reducible first | exact HB.out | apply below_alloc | apply pw_below_drewN | apply below_drew1 | refine below_set ?_ GE129.out) | exact HB.out))) : w.heap.size ≤ gb138)); have n6_ := Aside0.mk ((by rw [hg]; exact Nat.ne_of_lt (blk_lt (g := gb129) (o := .cells #[.slice A0_0 l0_0.length c0_0, .slice A0_1 l0_1.length c0_1, .slice A0_2 l0_2.length c0_2] 26 (0, 0)) (by (with_reducible repeat (first | refine blk_drewN ?_ _ | refine blk_drew ?_ | refine blk_alloc ?_ _)); exact BK129.out)) : gb129 ≠ gb138)); have n7_ := Aside0.mk ((by rw [hg]; exact Nat.ne_of_gt (blk_lt (g := gb129) (o := .cells #[.slice A0_0 l0_0.length c0_0, .slice A0_1 l0_1.length c0_1, .slice A0_2 l0_2.length c0_2] 26 (0, 0)) (by (with_reducible repeat (first | refine blk_drewN ?_ _ | refine blk_drew ?_ | refine blk_alloc ?_ _)); exact BK129.out)) : gb138 ≠ gb129)); clear HO135; clear BK129; clear HB; have HO135 := n0_; have BK129 := n1_; have HB := n2_; have BK138 := n3_; have GW138 := n4_; have GE138 := n5_; have NB129_138 := n6_; have NB138_129 := n7_; clear n0_ n1_ n2_ n3_ n4_ n5_ n6_ n7_; clear hb hbox hg; obtain ⟨Ao29, co29, eo29⟩ := Kd.R_slice HO135.out; subst eo29; have hnb30 := NB138_129.out; have hnc30 := NB129_138.out; have hcz31_0 : w28.cell? ⟨gb138, 0, none⟩ = some (.slice none 0 0) := (blk_cell BK138.out 0).trans rfl; have hcz31_1 : w28.cell? ⟨gb138, 1, none⟩ = some (.int .i64 0) := (blk_cell BK138.out 1).trans rfl; have hcz31_2 : w28.cell? ⟨gb138, 2, none⟩ = some (.bool false) := (blk_cell BK138.out 2).trans rfl; have hfz31_0 := blk_frozen BK138.out 0; have hfz31_1 := blk_frozen BK138.out 1; have hfz31_2 := blk_frozen BK138.out 2))
     repeat (go_quiet (first | (go_at_call 64; (with_reducible refine (pipe_net_order.calls _ _ l0_0 _ _ l0_1 _ _ l0_2 0 a1 a2 t133 t136 true _ ?side1 ?side2 ?side3 ?side4 ?side5 ?side6 A24.out).mono ?_); (case side1 => repeat (first | exact (Kd.C_below HR0_0.out HB.out) | (with_reducible refine Kd.C_alloc ?_ _) | (with_reducible refine Kd.C_drewN ?_ _) | (with_reducible refine Kd.C_drew ?_))); (case side2 => exact HC0_0.out); (case side3 => repeat (first | exact (Kd.C_below HR0_1.out HB.out) | (with_reducible refine Kd.C_alloc ?_ _) | (with_reducible refine Kd.C_drewN ?_ _) | (with_reducible refine Kd.C_drew ?_))); (case side4 => exact HC0_1.out); (case side5 => repeat (first | exact (Kd.C_below HR0_2.out HB.out) | (with_reducible refine Kd.C_alloc ?_ _) | (with_reducible refine Kd.C_drewN ?_ _) | (with_reducible refine Kd.C_drew ?_))); (case side6 => exact HC0_2.out); rintro e w27 ⟨v134, rfl, ho0, hb⟩; have n0_ := Aside0.mk (Kd.R_lower ho0 (below_size (by repeat (first | (with_reducible first | exact HB.out | apply below_alloc | apply pw_below_drewN | apply below_drew1 | refine below_set ?_ GE129.out) | exact HB.out)))); have n1_ := Aside0.mk (blk_below (g := gb129) (o := .cells #[.slice A0_0 l0_0.length c0_0, .slice A0_1 l0_1.length c0_1, .slice A0_2 l0_2.length c0_2] 26 (0, 0)) (by (with_reducible repeat (first | refine blk_drewN ?_ _ | refine blk_drew ?_ | refine blk_alloc ?_ _)); exact BK129.out) hb); have n2_ := Aside0.mk (below_step (by repeat (first | (with_reducible first | exact HB.out | apply below_alloc | apply pw_below_drewN | apply below_drew1 | refine below_set ?_ GE129.out) | exact HB.out)) hb); clear BK129; clear HB; have HO135 := n0_; have BK129 := n1_; have HB := n2_; clear n0_ n1_ n2_; (try clear hb); (try clear hb2); (try clear hk); (try clear hi); (try clear ho0)) | ((with_reducible refine gate_dst (N := 9) rfl ?_); refine box_event ?hg (N := 9) ?hd (cs := #[.slice none 0 0, .int .i64 0, .bool false]) (t := 97) ?hr ?_; (case hd => rfl); (case hg => rfl); (case hr => first | (go_simp; done) | (go_simp; rfl)); intro gb138 hg w28 hbox hb; have n0_ := Aside0.mk (Kd.R_below (by (with_reducible repeat (first | apply Kd.R_alloc | apply Kd.R_drewN | apply Kd.R_drew)); exact HO135.out) hb); have n1_ := Aside0.mk (blk_below (g := gb129) (o := .cells #[.slice A0_0 l0_0.length c0_0, .slice A0_1 l0_1.length c0_1, .slice A0_2 l0_2.length c0_2] 26 (0, 0)) (by (with_reducible repeat (first | refine blk_drewN ?_ _ | refine blk_drew ?_ | refine blk_alloc ?_ _)); exact BK129.out) hb); have n2_ := Aside0.mk (below_step (by repeat (first | (with_reducible first | exact HB.out | apply below_alloc | apply pw_below_drewN | apply below_drew1 | refine below_set ?_ GE129.out) | exact HB.out)) hb); have n3_ := Aside0.mk (hbox); have n4_ := Aside0.mk ((by rw [hg]; exact (below_size (by repeat (first | (with_reducible first | exact HB.out | apply below_alloc | apply pw_below_drewN | apply below_drew1 | refine below_set ?_ GE129.out) | exact HB.out))) : w.heap.size ≤ gb138)); have n5_ := Aside0.mk ((by rw [hg]; exact (below_size (by repeat (first | (with_reducible first | exact HB.out | apply below_alloc | apply pw_below_drewN | apply below_drew1 | refine below_set ?_ GE129.out) | exact HB.out))) : w.heap.size ≤ gb138)); have n6_ := Aside0.mk ((by rw [hg]; exact Nat.ne_of_lt (blk_lt (g := gb129) (o := .cells #[.slice A0_0 l0_0.length c0_0, .slice A0_1 l0_1.length c0_1, .slice A0_2 l0_2.length c0_2] 26 (0, 0)) (by (with_reducible repeat (first | refine blk_drewN ?_ _ | refine blk_drew ?_ | refine blk_alloc ?_ _)); exact BK129.out)) : gb129 ≠ gb138)); have n7_ := Aside0.mk ((by rw [hg]; exact Nat.ne_of_gt (blk_lt (g := gb129) (o := .cells #[.slice A0_0 l0_0.length c0_0, .slice A0_1 l0_1.length c0_1, .slice A0_2 l0_2.length c0_2] 26 (0, 0)) (by (with_reducible repeat (first | refine blk_drewN ?_ _ | refine blk_drew ?_ | refine blk_alloc ?_ _)); exact BK129.out)) : gb138 ≠ gb129)); clear HO135; clear BK129; clear HB; have HO135 := n0_; have BK129 := n1_; have HB := n2_; have BK138 := n3_; have GW138 := n4_; have GE138 := n5_; have NB129_138 := n6_; have NB138_129 := n7_; clear n0_ n1_ n2_ n3_ n4_ n5_ n6_ n7_; clear hb hbox hg; obtain ⟨Ao29, co29, eo29⟩ := Kd.R_slice HO135.out; subst eo29; have hnb30 := NB138_129.out; have hnc30 := NB129_138.out; have hcz31_0 : w28.cell? ⟨gb138, 0, none⟩ = some (.slice none 0 0) := (blk_cell BK138.out 0).trans rfl; have hcz31_1 : w28.cell? ⟨gb138, 1, none⟩ = some (.int .i64 0) := (blk_cell BK138.out 1).trans rfl; have hcz31_2 : w28.cell? ⟨gb138, 2, none⟩ = some (.bool false) := (blk_cell BK138.out 2).trans rfl; have hfz31_0 := blk_frozen BK138.out 0; have hfz31_1 := blk_frozen BK138.out 1; have hfz31_2 := blk_frozen BK138.out 2)); try go_wp2_with (first | (go_at_call 64; (with_reducible refine (pipe_net_order.calls _ _ l0_0 _ _ l0_1 _ _ l0_2 0 a1 a2 t133 t136 true _ ?side1 ?side2 ?side3 ?side4 ?side5 ?side6 A24.out).mono ?_); (case side1 => repeat (first | exact (Kd.C_below HR0_0.out HB.out) | (with_reducible refine Kd.C_alloc ?_ _) | (with_reducible refine Kd.C_drewN ?_ _) | (with_reducible refine Kd.C_drew ?_))); (case side2 => exact HC0_0.out); (case side3 => repeat (first | exact (Kd.C_below HR0_1.out HB.out) | (with_reducible refine Kd.C_alloc ?_ _) | (with_reducible refine Kd.C_drewN ?_ _) | (with_reducible refine Kd.C_drew ?_))); (case side4 => exact HC0_1.out); (case side5 => repeat (first | exact (Kd.C_below HR0_2.out HB.out) | (with_reducible refine Kd.C_alloc ?_ _) | (with_reducible refine Kd.C_drewN ?_ _) | (with_reducible refine Kd.C_drew ?_))); (case side6 => exact HC0_2.out); rintro e w27 ⟨v134, rfl, ho0, hb⟩; have n0_ := Aside0.mk (Kd.R_lower ho0 (below_size (by repeat (first | (with_reducible first | exact HB.out | apply below_alloc | apply pw_below_drewN | apply below_drew1 | refine below_set ?_ GE129.out) | exact HB.out)))); have n1_ := Aside0.mk (blk_below (g := gb129) (o := .cells #[.slice A0_0 l0_0.length c0_0, .slice A0_1 l0_1.length c0_1, .slice A0_2 l0_2.length c0_2] 26 (0, 0)) (by (with_reducible repeat (first | refine blk_drewN ?_ _ | refine blk_drew ?_ | refine blk_alloc ?_ _)); exact BK129.out) hb); have n2_ := Aside0.mk (below_step (by repeat (first | (with_reducible first | exact HB.out | apply below_alloc | apply pw_below_drewN | apply below_drew1 | refine below_set ?_ GE129.out) | exact HB.out)) hb); clear BK129; clear HB; have HO135 := n0_; have BK129 := n1_; have HB := n2_; clear n0_ n1_ n2_; (try clear hb); (try clear hb2); (try clear hk); (try clear hi); (try clear ho0)) | ((with_reducible refine gate_dst (N := 9) rfl ?_); refine box_event ?hg (N := 9) ?hd (cs := #[.slice none 0 0, .int .i64 0, .bool false]) (t := 97) ?hr ?_; (case hd => rfl); (case hg => rfl); (case hr => first | (go_simp; done) | (go_simp; rfl)); intro gb138 hg w28 hbox hb; have n0_ := Aside0.mk (Kd.R_below (by (with_reducible repeat (first | apply Kd.R_alloc | apply Kd.R_drewN | apply Kd.R_drew)); exact HO135.out) hb); have n1_ := Aside0.mk (blk_below (g := gb129) (o := .cells #[.slice A0_0 l0_0.length c0_0, .slice A0_1 l0_1.length c0_1, .slice A0_2 l0_2.length c0_2] 26 (0, 0)) (by (with_reducible repeat (first | refine blk_drewN ?_ _ | refine blk_drew ?_ | refine blk_alloc ?_ _)); exact BK129.out) hb); have n2_ := Aside0.mk (below_step (by repeat (first | (with_reducible first | exact HB.out | apply below_alloc | apply pw_below_drewN | apply below_drew1 | refine below_set ?_ GE129.out) | exact HB.out)) hb); have n3_ := Aside0.mk (hbox); have n4_ := Aside0.mk ((by rw [hg]; exact (below_size (by repeat (first | (with_reducible first | exact HB.out | apply below_alloc | apply pw_below_drewN | apply below_drew1 | refine below_set ?_ GE129.out) | exact HB.out))) : w.heap.size ≤ gb138)); have n5_ := Aside0.mk ((by rw [hg]; exact (below_size (by repeat (first | (with_reducible first | exact HB.out | apply below_alloc | apply pw_below_drewN | apply below_drew1 | refine below_set ?_ GE129.out) | exact HB.out))) : w.heap.size ≤ gb138)); have n6_ := Aside0.mk ((by rw [hg]; exact Nat.ne_of_lt (blk_lt (g := gb129) (o := .cells #[.slice A0_0 l0_0.length c0_0, .slice A0_1 l0_1.length c0_1, .slice A0_2 l0_2.length c0_2] 26 (0, 0)) (by (with_reducible repeat (first | refine blk_drewN ?_ _ | refine blk_drew ?_ | refine blk_alloc ?_ _)); exact BK129.out)) : gb129 ≠ gb138)); have n7_ := Aside0.mk ((by rw [hg]; exact Nat.ne_of_gt (blk_lt (g := gb129) (o := .cells #[.slice A0_0 l0_0.length c0_0, .slice A0_1 l0_1.length c0_1, .slice A0_2 l0_2.length c0_2] 26 (0, 0)) (by (with_reducible repeat (first | refine blk_drewN ?_ _ | refine blk_drew ?_ | refine blk_alloc ?_ _)); exact BK129.out)) : gb138 ≠ gb129)); clear HO135; clear BK129; clear HB; have HO135 := n0_; have BK129 := n1_; have HB := n2_; have BK138 := n3_; have GW138 := n4_; have GE138 := n5_; have NB129_138 := n6_; have NB138_129 := n7_; clear n0_ n1_ n2_ n3_ n4_ n5_ n6_ n7_; clear hb hbox hg; obtain ⟨Ao29, co29, eo29⟩ := Kd.R_slice HO135.out; subst eo29; have hnb30 := NB138_129.out; have hnc30 := NB129_138.out; have hcz31_0 : w28.cell? ⟨gb138, 0, none⟩ = some (.slice none 0 0) := (blk_cell BK138.out 0).trans rfl; have hcz31_1 : w28.cell? ⟨gb138, 1, none⟩ = some (.int .i64 0) := (blk_cell BK138.out 1).trans rfl; have hcz31_2 : w28.cell? ⟨gb138, 2, none⟩ = some (.bool false) := (blk_cell BK138.out 2).trans rfl; have hfz31_0 := blk_frozen BK138.out 0; have hfz31_1 := blk_frozen BK138.out 1; have hfz31_2 := blk_frozen BK138.out 2)))
     go_ret3
     exact ⟨_, by first | rfl | (simp [errW_none, errW_some] <;> rfl) | (simp [*, errW_none, errW_some] <;> rfl), by (with_reducible repeat (first | apply Kd.R_alloc | apply Kd.R_drewN | apply Kd.R_drew)); exact Kd.R_mono (Kd.R_far (p := ⟨gb138, 2, none⟩) (Kd.R_far (p := ⟨gb138, 1, none⟩) (Kd.R_far (p := ⟨gb138, 0, none⟩) (Kd.R_types HO135.out BK138.out (by decide)) (fun _ hk => hk.2) (.slice Ao29 t133.length co29)) (fun _ hk => hk.2) (.int .i64 t136)) (fun _ hk => hk.2) (.bool true)) (fun _ hk => trivial), by repeat (first | (with_reducible first | exact HB.out | apply below_alloc | apply pw_below_drewN | apply below_drew1 | refine below_set ?_ GE129.out | refine below_set ?_ GE138.out) | exact HB.out)⟩
    ·
     replace c25 := Bool.eq_false_iff.mpr c25
     subst c25
     have H1 : (some (([] : List Int), 0, 5)) = some (r1, r2, r3) := by rw [if_neg (show ¬ (false = true) by decide)] at H; exact H
     clear H
     have H := H1
     clear H1
     simp only [Option.some.injEq, Prod.mk.injEq] at H
     obtain ⟨rfl, rfl, rfl⟩ := H
     have hcz32_0 : wc.cell? ⟨gb129, 0, none⟩ = some (.slice A0_0 l0_0.length c0_0) := (blk_cell BK129.out 0).trans rfl
     have hcz32_1 : wc.cell? ⟨gb129, 1, none⟩ = some (.slice A0_1 l0_1.length c0_1) := (blk_cell BK129.out 1).trans rfl
     have hcz32_2 : wc.cell? ⟨gb129, 2, none⟩ = some (.slice A0_2 l0_2.length c0_2) := (blk_cell BK129.out 2).trans rfl
     have hfz32_0 := blk_frozen BK129.out 0
     have hfz32_1 := blk_frozen BK129.out 1
     have hfz32_2 := blk_frozen BK129.out 2
     go_wp2_with (first | (go_at_call 64; (with_reducible refine (pipe_net_order.calls _ _ l0_0 _ _ l0_1 _ _ l0_2 0 a1 a2 t133 t136 false _ ?side1 ?side2 ?side3 ?side4 ?side5 ?side6 A24.out).mono ?_); (case side1 => repeat (first | exact (Kd.C_below HR0_0.out HB.out) | (with_reducible refine Kd.C_alloc ?_ _) | (with_reducible refine Kd.C_drewN ?_ _) | (with_reducible refine Kd.C_drew ?_))); (case side2 => exact HC0_0.out); (case side3 => repeat (first | exact (Kd.C_below HR0_1.out HB.out) | (with_reducible refine Kd.C_alloc ?_ _) | (with_reducible refine Kd.C_drewN ?_ _) | (with_reducible refine Kd.C_drew ?_))); (case side4 => exact HC0_1.out); (case side5 => repeat (first | exact (Kd.C_below HR0_2.out HB.out) | (with_reducible refine Kd.C_alloc ?_ _) | (with_reducible refine Kd.C_drewN ?_ _) | (with_reducible refine Kd.C_drew ?_))); (case side6 => exact HC0_2.out); rintro e w33 ⟨v134, rfl, ho0, hb⟩; have n0_ := Aside0.mk (Kd.R_lower ho0 (below_size (by repeat (first | (with_reducible first | exact HB.out | apply below_alloc | apply pw_below_drewN | apply below_drew1 | refine below_set ?_ GE129.out) | exact HB.out)))); have n1_ := Aside0.mk (blk_below (g := gb129) (o := .cells #[.slice A0_0 l0_0.length c0_0, .slice A0_1 l0_1.length c0_1, .slice A0_2 l0_2.length c0_2] 26 (0, 0)) (by (with_reducible repeat (first | refine blk_drewN ?_ _ | refine blk_drew ?_ | refine blk_alloc ?_ _)); exact BK129.out) hb); have n2_ := Aside0.mk (below_step (by repeat (first | (with_reducible first | exact HB.out | apply below_alloc | apply pw_below_drewN | apply below_drew1 | refine below_set ?_ GE129.out) | exact HB.out)) hb); clear BK129; clear HB; have HO135 := n0_; have BK129 := n1_; have HB := n2_; clear n0_ n1_ n2_; (try clear hb); (try clear hb2); (try clear hk); (try clear hi); (try clear ho0)) | ((with_reducible refine gate_dst (N := 9) rfl ?_); refine box_event ?hg (N := 9) ?hd (cs := #[.slice none 0 0, .int .i64 0, .bool false]) (t := 97) ?hr ?_; (case hd => rfl); (case hg => rfl); (case hr => first | (go_simp; done) | (go_simp; rfl)); intro gb138 hg w34 hbox hb; have n0_ := Aside0.mk (Kd.R_below (by (with_reducible repeat (first | apply Kd.R_alloc | apply Kd.R_drewN | apply Kd.R_drew)); exact HO135.out) hb); have n1_ := Aside0.mk (blk_below (g := gb129) (o := .cells #[.slice A0_0 l0_0.length c0_0, .slice A0_1 l0_1.length c0_1, .slice A0_2 l0_2.length c0_2] 26 (0, 0)) (by (with_reducible repeat (first | refine blk_drewN ?_ _ | refine blk_drew ?_ | refine blk_alloc ?_ _)); exact BK129.out) hb); have n2_ := Aside0.mk (below_step (by repeat (first | (with_reducible first | exact HB.out | apply below_alloc | apply pw_below_drewN | apply below_drew1 | refine below_set ?_ GE129.out) | exact HB.out)) hb); have n3_ := Aside0.mk (hbox); have n4_ := Aside0.mk ((by rw [hg]; exact (below_size (by repeat (first | (with_reducible first | exact HB.out | apply below_alloc | apply pw_below_drewN | apply below_drew1 | refine below_set ?_ GE129.out) | exact HB.out))) : w.heap.size ≤ gb138)); have n5_ := Aside0.mk ((by rw [hg]; exact (below_size (by repeat (first | (with_reducible first | exact HB.out | apply below_alloc | apply pw_below_drewN | apply below_drew1 | refine below_set ?_ GE129.out) | exact HB.out))) : w.heap.size ≤ gb138)); have n6_ := Aside0.mk ((by rw [hg]; exact Nat.ne_of_lt (blk_lt (g := gb129) (o := .cells #[.slice A0_0 l0_0.length c0_0, .slice A0_1 l0_1.length c0_1, .slice A0_2 l0_2.length c0_2] 26 (0, 0)) (by (with_reducible repeat (first | refine blk_drewN ?_ _ | refine blk_drew ?_ | refine blk_alloc ?_ _)); exact BK129.out)) : gb129 ≠ gb138)); have n7_ := Aside0.mk ((by rw [hg]; exact Nat.ne_of_gt (blk_lt (g := gb129) (o := .cells #[.slice A0_0 l0_0.length c0_0, .slice A0_1 l0_1.length c0_1, .slice A0_2 l0_2.length c0_2] 26 (0, 0)) (by (with_reducible repeat (first | refine blk_drewN ?_ _ | refine blk_drew ?_ | refine blk_alloc ?_ _)); exact BK129.out)) : gb138 ≠ gb129)); clear HO135; clear BK129; clear HB; have HO135 := n0_; have BK129 := n1_; have HB := n2_; have BK138 := n3_; have GW138 := n4_; have GE138 := n5_; have NB129_138 := n6_; have NB138_129 := n7_; clear n0_ n1_ n2_ n3_ n4_ n5_ n6_ n7_; clear hb hbox hg; obtain ⟨Ao35, co35, eo35⟩ := Kd.R_slice HO135.out; subst eo35; have hnb36 := NB138_129.out; have hnc36 := NB129_138.out; have hcz37_0 : w34.cell? ⟨gb138, 0, none⟩ = some (.slice none 0 0) := (blk_cell BK138.out 0).trans rfl; have hcz37_1 : w34.cell? ⟨gb138, 1, none⟩ = some (.int .i64 0) := (blk_cell BK138.out 1).trans rfl; have hcz37_2 : w34.cell? ⟨gb138, 2, none⟩ = some (.bool false) := (blk_cell BK138.out 2).trans rfl; have hfz37_0 := blk_frozen BK138.out 0; have hfz37_1 := blk_frozen BK138.out 1; have hfz37_2 := blk_frozen BK138.out 2))
     repeat (go_quiet (first | (go_at_call 64; (with_reducible refine (pipe_net_order.calls _ _ l0_0 _ _ l0_1 _ _ l0_2 0 a1 a2 t133 t136 false _ ?side1 ?side2 ?side3 ?side4 ?side5 ?side6 A24.out).mono ?_); (case side1 => repeat (first | exact (Kd.C_below HR0_0.out HB.out) | (with_reducible refine Kd.C_alloc ?_ _) | (with_reducible refine Kd.C_drewN ?_ _) | (with_reducible refine Kd.C_drew ?_))); (case side2 => exact HC0_0.out); (case side3 => repeat (first | exact (Kd.C_below HR0_1.out HB.out) | (with_reducible refine Kd.C_alloc ?_ _) | (with_reducible refine Kd.C_drewN ?_ _) | (with_reducible refine Kd.C_drew ?_))); (case side4 => exact HC0_1.out); (case side5 => repeat (first | exact (Kd.C_below HR0_2.out HB.out) | (with_reducible refine Kd.C_alloc ?_ _) | (with_reducible refine Kd.C_drewN ?_ _) | (with_reducible refine Kd.C_drew ?_))); (case side6 => exact HC0_2.out); rintro e w33 ⟨v134, rfl, ho0, hb⟩; have n0_ := Aside0.mk (Kd.R_lower ho0 (below_size (by repeat (first | (with_reducible first | exact HB.out | apply below_alloc | apply pw_below_drewN | apply below_drew1 | refine below_set ?_ GE129.out) | exact HB.out)))); have n1_ := Aside0.mk (blk_below (g := gb129) (o := .cells #[.slice A0_0 l0_0.length c0_0, .slice A0_1 l0_1.length c0_1, .slice A0_2 l0_2.length c0_2] 26 (0, 0)) (by (with_reducible repeat (first | refine blk_drewN ?_ _ | refine blk_drew ?_ | refine blk_alloc ?_ _)); exact BK129.out) hb); have n2_ := Aside0.mk (below_step (by repeat (first | (with_reducible first | exact HB.out | apply below_alloc | apply pw_below_drewN | apply below_drew1 | refine below_set ?_ GE129.out) | exact HB.out)) hb); clear BK129; clear HB; have HO135 := n0_; have BK129 := n1_; have HB := n2_; clear n0_ n1_ n2_; (try clear hb); (try clear hb2); (try clear hk); (try clear hi); (try clear ho0)) | ((with_reducible refine gate_dst (N := 9) rfl ?_); refine box_event ?hg (N := 9) ?hd (cs := #[.slice none 0 0, .int .i64 0, .bool false]) (t := 97) ?hr ?_; (case hd => rfl); (case hg => rfl); (case hr => first | (go_simp; done) | (go_simp; rfl)); intro gb138 hg w34 hbox hb; have n0_ := Aside0.mk (Kd.R_below (by (with_reducible repeat (first | apply Kd.R_alloc | apply Kd.R_drewN | apply Kd.R_drew)); exact HO135.out) hb); have n1_ := Aside0.mk (blk_below (g := gb129) (o := .cells #[.slice A0_0 l0_0.length c0_0, .slice A0_1 l0_1.length c0_1, .slice A0_2 l0_2.length c0_2] 26 (0, 0)) (by (with_reducible repeat (first | refine blk_drewN ?_ _ | refine blk_drew ?_ | refine blk_alloc ?_ _)); exact BK129.out) hb); have n2_ := Aside0.mk (below_step (by repeat (first | (with_reducible first | exact HB.out | apply below_alloc | apply pw_below_drewN | apply below_drew1 | refine below_set ?_ GE129.out) | exact HB.out)) hb); have n3_ := Aside0.mk (hbox); have n4_ := Aside0.mk ((by rw [hg]; exact (below_size (by repeat (first | (with_reducible first | exact HB.out | apply below_alloc | apply pw_below_drewN | apply below_drew1 | refine below_set ?_ GE129.out) | exact HB.out))) : w.heap.size ≤ gb138)); have n5_ := Aside0.mk ((by rw [hg]; exact (below_size (by repeat (first | (with_reducible first | exact HB.out | apply below_alloc | apply pw_below_drewN | apply below_drew1 | refine below_set ?_ GE129.out) | exact HB.out))) : w.heap.size ≤ gb138)); have n6_ := Aside0.mk ((by rw [hg]; exact Nat.ne_of_lt (blk_lt (g := gb129) (o := .cells #[.slice A0_0 l0_0.length c0_0, .slice A0_1 l0_1.length c0_1, .slice A0_2 l0_2.length c0_2] 26 (0, 0)) (by (with_reducible repeat (first | refine blk_drewN ?_ _ | refine blk_drew ?_ | refine blk_alloc ?_ _)); exact BK129.out)) : gb129 ≠ gb138)); have n7_ := Aside0.mk ((by rw [hg]; exact Nat.ne_of_gt (blk_lt (g := gb129) (o := .cells #[.slice A0_0 l0_0.length c0_0, .slice A0_1 l0_1.length c0_1, .slice A0_2 l0_2.length c0_2] 26 (0, 0)) (by (with_reducible repeat (first | refine blk_drewN ?_ _ | refine blk_drew ?_ | refine blk_alloc ?_ _)); exact BK129.out)) : gb138 ≠ gb129)); clear HO135; clear BK129; clear HB; have HO135 := n0_; have BK129 := n1_; have HB := n2_; have BK138 := n3_; have GW138 := n4_; have GE138 := n5_; have NB129_138 := n6_; have NB138_129 := n7_; clear n0_ n1_ n2_ n3_ n4_ n5_ n6_ n7_; clear hb hbox hg; obtain ⟨Ao35, co35, eo35⟩ := Kd.R_slice HO135.out; subst eo35; have hnb36 := NB138_129.out; have hnc36 := NB129_138.out; have hcz37_0 : w34.cell? ⟨gb138, 0, none⟩ = some (.slice none 0 0) := (blk_cell BK138.out 0).trans rfl; have hcz37_1 : w34.cell? ⟨gb138, 1, none⟩ = some (.int .i64 0) := (blk_cell BK138.out 1).trans rfl; have hcz37_2 : w34.cell? ⟨gb138, 2, none⟩ = some (.bool false) := (blk_cell BK138.out 2).trans rfl; have hfz37_0 := blk_frozen BK138.out 0; have hfz37_1 := blk_frozen BK138.out 1; have hfz37_2 := blk_frozen BK138.out 2)); try go_wp2_with (first | (go_at_call 64; (with_reducible refine (pipe_net_order.calls _ _ l0_0 _ _ l0_1 _ _ l0_2 0 a1 a2 t133 t136 false _ ?side1 ?side2 ?side3 ?side4 ?side5 ?side6 A24.out).mono ?_); (case side1 => repeat (first | exact (Kd.C_below HR0_0.out HB.out) | (with_reducible refine Kd.C_alloc ?_ _) | (with_reducible refine Kd.C_drewN ?_ _) | (with_reducible refine Kd.C_drew ?_))); (case side2 => exact HC0_0.out); (case side3 => repeat (first | exact (Kd.C_below HR0_1.out HB.out) | (with_reducible refine Kd.C_alloc ?_ _) | (with_reducible refine Kd.C_drewN ?_ _) | (with_reducible refine Kd.C_drew ?_))); (case side4 => exact HC0_1.out); (case side5 => repeat (first | exact (Kd.C_below HR0_2.out HB.out) | (with_reducible refine Kd.C_alloc ?_ _) | (with_reducible refine Kd.C_drewN ?_ _) | (with_reducible refine Kd.C_drew ?_))); (case side6 => exact HC0_2.out); rintro e w33 ⟨v134, rfl, ho0, hb⟩; have n0_ := Aside0.mk (Kd.R_lower ho0 (below_size (by repeat (first | (with_reducible first | exact HB.out | apply below_alloc | apply pw_below_drewN | apply below_drew1 | refine below_set ?_ GE129.out) | exact HB.out)))); have n1_ := Aside0.mk (blk_below (g := gb129) (o := .cells #[.slice A0_0 l0_0.length c0_0, .slice A0_1 l0_1.length c0_1, .slice A0_2 l0_2.length c0_2] 26 (0, 0)) (by (with_reducible repeat (first | refine blk_drewN ?_ _ | refine blk_drew ?_ | refine blk_alloc ?_ _)); exact BK129.out) hb); have n2_ := Aside0.mk (below_step (by repeat (first | (with_reducible first | exact HB.out | apply below_alloc | apply pw_below_drewN | apply below_drew1 | refine below_set ?_ GE129.out) | exact HB.out)) hb); clear BK129; clear HB; have HO135 := n0_; have BK129 := n1_; have HB := n2_; clear n0_ n1_ n2_; (try clear hb); (try clear hb2); (try clear hk); (try clear hi); (try clear ho0)) | ((with_reducible refine gate_dst (N := 9) rfl ?_); refine box_event ?hg (N := 9) ?hd (cs := #[.slice none 0 0, .int .i64 0, .bool false]) (t := 97) ?hr ?_; (case hd => rfl); (case hg => rfl); (case hr => first | (go_simp; done) | (go_simp; rfl)); intro gb138 hg w34 hbox hb; have n0_ := Aside0.mk (Kd.R_below (by (with_reducible repeat (first | apply Kd.R_alloc | apply Kd.R_drewN | apply Kd.R_drew)); exact HO135.out) hb); have n1_ := Aside0.mk (blk_below (g := gb129) (o := .cells #[.slice A0_0 l0_0.length c0_0, .slice A0_1 l0_1.length c0_1, .slice A0_2 l0_2.length c0_2] 26 (0, 0)) (by (with_reducible repeat (first | refine blk_drewN ?_ _ | refine blk_drew ?_ | refine blk_alloc ?_ _)); exact BK129.out) hb); have n2_ := Aside0.mk (below_step (by repeat (first | (with_reducible first | exact HB.out | apply below_alloc | apply pw_below_drewN | apply below_drew1 | refine below_set ?_ GE129.out) | exact HB.out)) hb); have n3_ := Aside0.mk (hbox); have n4_ := Aside0.mk ((by rw [hg]; exact (below_size (by repeat (first | (with_reducible first | exact HB.out | apply below_alloc | apply pw_below_drewN | apply below_drew1 | refine below_set ?_ GE129.out) | exact HB.out))) : w.heap.size ≤ gb138)); have n5_ := Aside0.mk ((by rw [hg]; exact (below_size (by repeat (first | (with_reducible first | exact HB.out | apply below_alloc | apply pw_below_drewN | apply below_drew1 | refine below_set ?_ GE129.out) | exact HB.out))) : w.heap.size ≤ gb138)); have n6_ := Aside0.mk ((by rw [hg]; exact Nat.ne_of_lt (blk_lt (g := gb129) (o := .cells #[.slice A0_0 l0_0.length c0_0, .slice A0_1 l0_1.length c0_1, .slice A0_2 l0_2.length c0_2] 26 (0, 0)) (by (with_reducible repeat (first | refine blk_drewN ?_ _ | refine blk_drew ?_ | refine blk_alloc ?_ _)); exact BK129.out)) : gb129 ≠ gb138)); have n7_ := Aside0.mk ((by rw [hg]; exact Nat.ne_of_gt (blk_lt (g := gb129) (o := .cells #[.slice A0_0 l0_0.length c0_0, .slice A0_1 l0_1.length c0_1, .slice A0_2 l0_2.length c0_2] 26 (0, 0)) (by (with_reducible repeat (first | refine blk_drewN ?_ _ | refine blk_drew ?_ | refine blk_alloc ?_ _)); exact BK129.out)) : gb138 ≠ gb129)); clear HO135; clear BK129; clear HB; have HO135 := n0_; have BK129 := n1_; have HB := n2_; have BK138 := n3_; have GW138 := n4_; have GE138 := n5_; have NB129_138 := n6_; have NB138_129 := n7_; clear n0_ n1_ n2_ n3_ n4_ n5_ n6_ n7_; clear hb hbox hg; obtain ⟨Ao35, co35, eo35⟩ := Kd.R_slice HO135.out; subst eo35; have hnb36 := NB138_129.out; have hnc36 := NB129_138.out; have hcz37_0 : w34.cell? ⟨gb138, 0, none⟩ = some (.slice none 0 0) := (blk_cell BK138.out 0).trans rfl; have hcz37_1 : w34.cell? ⟨gb138, 1, none⟩ = some (.int .i64 0) := (blk_cell BK138.out 1).trans rfl; have hcz37_2 : w34.cell? ⟨gb138, 2, none⟩ = some (.bool false) := (blk_cell BK138.out 2).trans rfl; have hfz37_0 := blk_frozen BK138.out 0; have hfz37_1 := blk_frozen BK138.out 1; have hfz37_2 := blk_frozen BK138.out 2)))
     go_ret3
     exact ⟨_, by first | rfl | (simp [errW_none, errW_some] <;> rfl) | (simp [*, errW_none, errW_some] <;> rfl), by first | exact Kd.R_nil _ _ _ _ _ | exact Kd.N_nil _ _ _ _ _ | exact Kd.V_nil _ _ _ _ _ | exact Kd.Q_nil _ _ _ _ _ | exact Kd.S_nil _ _ _ _ _, by repeat (first | (with_reducible first | exact HB.out | apply below_alloc | apply pw_below_drewN | apply below_drew1 | refine below_set ?_ GE129.out | refine below_set ?_ GE138.out) | exact HB.out)⟩
def talikref04_Same.l0 : Nat → List Int → List Int → Int → Option (Bool)
 | 0, _, _, _ => none
 | k + 1, x0, x1, x5 => if x5 < (x0.length : Int) then (if 0 ≤ x5 then (if x5 < (x1.length : Int) then (if (rd x0 x5) = (rd x1 x5) then (talikref04_Same.l0 k x0 x1 (wrap64 (x5 + 1))) else (some false)) else (none)) else (none)) else (some true)
def talikref04_Same.f (k : Nat) (l0 : List Int) (l1 : List Int) : Option (Bool) := if (l0.length : Int) = (l1.length : Int) then (talikref04_Same.l0 k l0 l1 0) else (some false)
set_option maxHeartbeats 8000000 in
set_option maxRecDepth 100000 in
theorem talikref04_Same.calls (k : Nat) (A0 : Option Addr) (c0 : Nat) (l0 : List Int) (A1 : Option Addr) (c1 : Nat) (l1 : List Int) (r : Bool) (w : World) (hr0 : Kd.C (Kd.int .i64) w A0 l0.length l0) (hc0 : l0.length ≤ c0) (hr1 : Kd.C (Kd.int .i64) w A1 l1.length l1) (hc1 : l1.length ≤ c1) (h : talikref04_Same.f k l0 l1 = some r) :
  Calls Try.prog 28 #[.slice A0 l0.length c0, .slice A1 l1.length c1] w fun e w' => e = .returned (.bool r) ∧ Drawn0 w w' := by
 have HR0 := Aside0.mk hr0
 have HC0 := Aside0.mk hc0
 clear hr0 hc0
 have HR1 := Aside0.mk hr1
 have HC1 := Aside0.mk hc1
 clear hr1 hc1
 have H : (if (l0.length : Int) = (l1.length : Int) then (talikref04_Same.l0 k l0 l1 0) else (some false)) = some r := h
 clear h
 by_cases c3 : (l0.length : Int) = (l1.length : Int)
 ·
  rw [if_pos c3] at H
  have c3b0 : ((l0.length : Int) == (l1.length : Int)) = true := beq_iff_eq.mpr c3
  have c3b1 : ((l0.length : Int) != (l1.length : Int)) = false := bne_eq_false_iff_eq.mpr c3
  have c3b2 : (l0.length == l1.length) = true := by first | simpa using c3 | (simp at c3 ⊢; omega)
  clear c3
  have H' := Aside0.mk H
  clear H
  go_enter Try.func28, Try.ntmps28
  go_wp2
  repeat (go_quiet (fail); try go_wp2)
  go_loopg [5] k (fun kq v5 w' => ∃ (x5_1 : Int), v5 = .int .i64 x5_1 ∧ Aside0 (talikref04_Same.l0 kq l0 l1 x5_1 = some r) ∧ Aside0 (kq ≤ k) ∧ Drawn0 w w')
  case atStart => exact ⟨(0), (by first | rfl | (simp; done) | (simp [*]; done)), H', ⟨Nat.le_refl _⟩, by repeat (first | exact Drawn0.refl _ | apply Drawn0.step)⟩
  case round =>
   clear H'
   try clear c1
   try clear c2
   try clear p2
   try clear c3
   try clear c3b0
   try clear c3b1
   try clear c3b2
   obtain ⟨x5_1, rfl, HA, HK1, ⟨m1, rfl⟩⟩ := hrel
   cases gk with
   | zero => exact absurd HA.out (by simp [talikref04_Same.l0])
   | succ k1 =>
    have H := HA.out
    clear HA
    simp only [talikref04_Same.l0] at H
    by_cases c4 : x5_1 < (l0.length : Int)
    ·
     rw [if_pos c4] at H
     have c4b0 : decide (x5_1 < (l0.length : Int)) = true := decide_eq_true c4
     clear c4
     by_cases c5 : 0 ≤ x5_1
     ·
      rw [if_pos c5] at H
      have c5b0 : decide (0 ≤ x5_1) = true := decide_eq_true c5
      clear c5
      by_cases c6 : x5_1 < (l1.length : Int)
      ·
       rw [if_pos c6] at H
       have c6b0 : decide (x5_1 < (l1.length : Int)) = true := decide_eq_true c6
       clear c6
       by_cases c7 : (rd l0 x5_1) = (rd l1 x5_1)
       ·
        rw [if_pos c7] at H
        have c7b0 : ((rd l0 x5_1) == (rd l1 x5_1)) = true := beq_iff_eq.mpr c7
        have c7b1 : ((rd l0 x5_1) != (rd l1 x5_1)) = false := bne_eq_false_iff_eq.mpr c7
        clear c7
        have H' := Aside0.mk H
        clear H
        have p139 : 0 ≤ (x5_1 : Int) := of_decide_eq_true (by first | (with_reducible assumption) | assumption)
        have q139 : x5_1 < (l0.length : Int) := of_decide_eq_true (by first | (with_reducible assumption) | assumption)
        obtain ⟨ad139, e139, hx139_0⟩ := Kd.at_int HR0.out x5_1 p139 q139
        cases e139
        replace p139 := eq_true p139
        replace q139 := eq_true q139
        have p140 : 0 ≤ (x5_1 : Int) := of_decide_eq_true (by first | (with_reducible assumption) | assumption)
        have q140 : x5_1 < (l1.length : Int) := of_decide_eq_true (by first | (with_reducible assumption) | assumption)
        obtain ⟨ad140, e140, hx140_0⟩ := Kd.at_int HR1.out x5_1 p140 q140
        cases e140
        replace p140 := eq_true p140
        replace q140 := eq_true q140
        go_wp2
        repeat (go_quiet (fail); try go_wp2)
        go_roundg k1
        case measure => have := HK1.out; omega
        case rel => exact ⟨(wrap64 (x5_1 + 1)), (by first | rfl | (simp; done) | (simp [*]; done)), H', ⟨by have := HK1.out; omega⟩, by repeat (first | exact Drawn0.refl _ | apply Drawn0.step)⟩
       ·
        rw [if_neg c7] at H
        have c7b0 : ((rd l0 x5_1) == (rd l1 x5_1)) = false := beq_eq_false_iff_ne.mpr c7
        have c7b1 : ((rd l0 x5_1) != (rd l1 x5_1)) = true := bne_iff_ne.mpr c7
        obtain rfl := Option.some.inj H
        have p139 : 0 ≤ (x5_1 : Int) := of_decide_eq_true (by first | (with_reducible assumption) | assumption)
        have q139 : x5_1 < (l0.length : Int) := of_decide_eq_true (by first | (with_reducible assumption) | assumption)
        obtain ⟨ad139, e139, hx139_0⟩ := Kd.at_int HR0.out x5_1 p139 q139
        cases e139
        replace p139 := eq_true p139
        replace q139 := eq_true q139
        have p140 : 0 ≤ (x5_1 : Int) := of_decide_eq_true (by first | (with_reducible assumption) | assumption)
        have q140 : x5_1 < (l1.length : Int) := of_decide_eq_true (by first | (with_reducible assumption) | assumption)
        obtain ⟨ad140, e140, hx140_0⟩ := Kd.at_int HR1.out x5_1 p140 q140
        cases e140
        replace p140 := eq_true p140
        replace q140 := eq_true q140
        go_wp2
        repeat (go_quiet (fail); try go_wp2)
        go_ret
        exact ⟨by first | rfl | (simp; done) | (simp [*]; done), by repeat (first | exact Drawn0.refl _ | apply Drawn0.step)⟩
      ·
       rw [if_neg c6] at H
       exact absurd H (by simp)
     ·
      rw [if_neg c5] at H
      exact absurd H (by simp)
    ·
     rw [if_neg c4] at H
     have c4b0 : decide (x5_1 < (l0.length : Int)) = false := decide_eq_false c4
     clear c4
     obtain rfl := Option.some.inj H
     go_wp2
     repeat (go_quiet (fail); try go_wp2)
     go_ret
     exact ⟨by first | rfl | (simp; done) | (simp [*]; done), by repeat (first | exact Drawn0.refl _ | apply Drawn0.step)⟩
 ·
  rw [if_neg c3] at H
  have c3b0 : ((l0.length : Int) == (l1.length : Int)) = false := beq_eq_false_iff_ne.mpr c3
  have c3b1 : ((l0.length : Int) != (l1.length : Int)) = true := bne_iff_ne.mpr c3
  have c3b2 : (l0.length == l1.length) = false := by first | simpa using c3 | (simp at c3 ⊢; omega)
  obtain rfl := Option.some.inj H
  go_enter Try.func28, Try.ntmps28
  go_wp2
  repeat (go_quiet (fail); try go_wp2)
  go_ret
  exact ⟨by first | rfl | (simp; done) | (simp [*]; done), by repeat (first | exact Drawn0.refl _ | apply Drawn0.step)⟩
end Go.Proofs.Ytipphcjgdebecaa.PA
namespace Go.Proofs.Ytipphcjgdebecaa.PA
open Go.RowKit Go.Proofs.YtipphcjgdebecaaW.PrintWords Go.Proofs.YtipphcjgdebecaaW.PrintLast Go.Proofs.YtipphcjgdebecaaW.PrintMore
attribute [local go_sem] max2_int min2_int max_two min_two max_three min_three max_four min_four
set_option linter.unusedVariables false
set_option linter.unusedSimpArgs false
def faultB (l0 : List S39) (f : Int) : Bool := inB f 0 (wrap64 (shl .i64 1 (l0.length : Int) - 1))
def givenV (l0 : List S39) (l1 : List S37) (l2 : List (List Int)) (a1 : Int) (fs : List Int) : Int :=
 if 12 < (fs.length : Int) then 3 else if (!validB l0 l1 l2 || (!inB a1 0 l0.length || fs.any fun f => !faultB l0 f)) = true then 2 else 0
theorem fault_some (l0 : List S39) (l1 : List S37) (l2 : List (List Int)) (f : Int) : pipe_fault.f l0 l1 l2 f = some (faultB l0 f) := by
 unfold pipe_fault.f faultB
 rw [pipe_in_eq]
 rfl
theorem place_some (l0 : List S39) (l1 : List S37) (l2 : List (List Int)) (a : Int) : pipe_place.f l0 l1 l2 a = some (inB a 0 l0.length) := by
 unfold pipe_place.f
 rw [pipe_in_eq]
 rfl
set_option maxRecDepth 100000 in
set_option maxHeartbeats 2000000 in
theorem given1_calls (A0 : Option Addr) (c0 : Nat) (l0 : List S39) (A1 : Option Addr) (c1 : Nat) (l1 : List S37) (A2 : Option Addr) (c2 : Nat) (l2 : List (List Int)) (f : Int) (gb : Nat) (w : World) (hr0 : Kd.C k39 w A0 l0.length l0) (hc0 : l0.length ≤ c0) (hr1 : Kd.C k37 w A1 l1.length l1) (hc1 : l1.length ≤ c1) (hr2 : Kd.C (Kd.slice 3 (Kd.int .i64)) w A2 l2.length l2) (hc2 : l2.length ≤ c2)
  (hb : w.heap[gb]? = some (.cells #[.slice A0 l0.length c0, .slice A1 l1.length c1, .slice A2 l2.length c2] 26 (0, 0))) :
  Calls Try.prog 95 #[.int .i64 f, .pointer (some ⟨gb, 0, none⟩)] w fun e w' => e = .returned (.bool (!faultB l0 f)) ∧ Below w.heap.size w w' := by
 have hu26 := Try.underlying26
 have H := Aside0.mk (pipe_fault.calls _ _ l0 _ _ l1 _ _ l2 f (faultB l0 f) w hr0 hc0 hr1 hc1 hr2 hc2 (fault_some l0 l1 l2 f))
 have k0 : w.cell? ⟨gb, 0, none⟩ = some (.slice A0 l0.length c0) := blk_cell hb 0
 have k1 : w.cell? ⟨gb, 1, none⟩ = some (.slice A1 l1.length c1) := blk_cell hb 1
 have k2 : w.cell? ⟨gb, 2, none⟩ = some (.slice A2 l2.length c2) := blk_cell hb 2
 clear hr0 hc0 hr1 hc1 hr2 hc2 hb
 go_enter Try.func95, Try.ntmps95
 go_wp2_with (go_at_call 63; refine H.out.mono ?_; rintro e w2 ⟨rfl, hb⟩; have HB := Aside0.mk hb; clear hb)
 go_ret
 exact ⟨rfl, HB.out⟩
def pipe_given.f (l0_0 : List (S39)) (l0_1 : List (S37)) (l0_2 : List (List Int)) (a1 : Int) (l2 : List Int) : Option (Int) := some (givenV l0_0 l0_1 l0_2 a1 l2)
set_option maxHeartbeats 4000000 in
set_option maxRecDepth 100000 in
theorem pipe_given.calls (A0_0 : Option Addr) (c0_0 : Nat) (l0_0 : List (S39)) (A0_1 : Option Addr) (c0_1 : Nat) (l0_1 : List (S37)) (A0_2 : Option Addr) (c0_2 : Nat) (l0_2 : List (List Int)) (a1 : Int) (A2 : Option Addr) (c2 : Nat) (l2 : List Int) (r : Int) (w : World) (hr0_0 : Kd.C k39 w A0_0 l0_0.length l0_0) (hc0_0 : l0_0.length ≤ c0_0) (hr0_1 : Kd.C k37 w A0_1 l0_1.length l0_1) (hc0_1 : l0_1.length ≤ c0_1) (hr0_2 : Kd.C (Kd.slice 3 (Kd.int .i64)) w A0_2 l0_2.length l0_2) (hc0_2 : l0_2.length ≤ c0_2) (hr2 : Kd.C (Kd.int .i64) w A2 l2.length l2) (hc2 : l2.length ≤ c2) (h : pipe_given.f l0_0 l0_1 l0_2 a1 l2 = some r) :
  Calls Try.prog 70 #[.agg #[.slice A0_0 l0_0.length c0_0, .slice A0_1 l0_1.length c0_1, .slice A0_2 l0_2.length c0_2], .int .i64 a1, .slice A2 l2.length c2] w fun e w' => e = .returned (.int .i64 r) ∧ Below w.heap.size w w' := by
 have h' := Option.some.inj h
 clear h
 have HF := Aside0.mk h'
 clear h'
 have hu26 := Try.underlying26
 have HB := Aside0.mk (Below.refl w.heap.size w)
 have HR0 := Aside0.mk hr0_0
 have HR1 := Aside0.mk hr0_1
 have HR2 := Aside0.mk hr0_2
 have HR3 := Aside0.mk hr2
 clear hr0_0 hr0_1 hr0_2 hr2
 have hmf : ∀ (fn : Fn) (first cap : Array Value) (w : World), (Instr.makeFunc fn first cap).run Try.prog w = .ok (.func fn first cap) w := fun _ _ _ _ => rfl
 by_cases hlen : 12 < (l2.length : Int)
 ·
  have hr : r = 3 := by rw [← HF.out]; unfold givenV; rw [if_pos hlen]
  subst hr
  go_enter Try.func70, Try.ntmps70
  go_wp2_with ((with_reducible refine gate_dst (N := 3) rfl ?_); refine box_event ?hg (N := 3) ?hd (cs := #[.slice A0_0 l0_0.length c0_0, .slice A0_1 l0_1.length c0_1, .slice A0_2 l0_2.length c0_2]) (t := 26) ?hr ?_; (case hd => rfl); (case hg => rfl); (case hr => first | (go_simp; done) | (go_simp; rfl)); intro gb hg_gb w2 hbox hb; have BKgb := Aside0.mk hbox; have n_HB := Aside0.mk (below_step HB.out hb); have GEgb : w.heap.size ≤ gb := (by rw [hg_gb]; exact HB.out.size); clear HB; have HB := n_HB; clear n_HB; have hfgb := blk_frozen BKgb.out; have hcgb_0 : w2.cell? ⟨gb, 0, none⟩ = some (.slice A0_0 l0_0.length c0_0) := (blk_cell BKgb.out 0).trans rfl; have hcgb_1 : w2.cell? ⟨gb, 1, none⟩ = some (.slice A0_1 l0_1.length c0_1) := (blk_cell BKgb.out 1).trans rfl; have hcgb_2 : w2.cell? ⟨gb, 2, none⟩ = some (.slice A0_2 l0_2.length c0_2) := (blk_cell BKgb.out 2).trans rfl; clear hbox hb hg_gb)
  go_ret
  exact ⟨rfl, HB.out⟩
 ·
  have hr : r = if (!validB l0_0 l0_1 l0_2 || (!inB a1 0 l0_0.length || l2.any fun f => !faultB l0_0 f)) = true then 2 else 0 := by rw [← HF.out]; unfold givenV; rw [if_neg hlen]
  have HR := Aside0.mk hr
  clear hr
  have hval : ∀ W, Below w.heap.size w W → Calls Try.prog 54 #[.agg #[.slice A0_0 l0_0.length c0_0, .slice A0_1 l0_1.length c0_1, .slice A0_2 l0_2.length c0_2]] W fun e w' => e = .returned (.bool (validB l0_0 l0_1 l0_2)) ∧ Below W.heap.size W w' := fun W hW =>
   pipe_valid.calls _ _ _ _ _ _ _ _ _ _ W (Kd.C_below HR0.out hW) hc0_0 (Kd.C_below HR1.out hW) hc0_1 (Kd.C_below HR2.out hW) hc0_2 rfl
  have hpl : ∀ W, Below w.heap.size w W → Calls Try.prog 62 #[.agg #[.slice A0_0 l0_0.length c0_0, .slice A0_1 l0_1.length c0_1, .slice A0_2 l0_2.length c0_2], .int .i64 a1] W fun e w' => e = .returned (.bool (inB a1 0 l0_0.length)) ∧ Below W.heap.size W w' := fun W hW =>
   pipe_place.calls _ _ _ _ _ _ _ _ _ _ _ W (Kd.C_below HR0.out hW) hc0_0 (Kd.C_below HR1.out hW) hc0_1 (Kd.C_below HR2.out hW) hc0_2 (place_some _ _ _ _)
  have HVAL := Aside0.mk hval
  have HPL := Aside0.mk hpl
  clear hval hpl
  cases hv : validB l0_0 l0_1 l0_2 with
  | false =>
   rw [hv] at HR
   have hr2 : r = 2 := by rw [HR.out]; rfl
   have HV := Aside0.mk hv
   clear hv
   subst hr2
   go_enter Try.func70, Try.ntmps70
   go_wp2_with (first | ((with_reducible refine gate_dst (N := 3) rfl ?_); refine box_event ?hg (N := 3) ?hd (cs := #[.slice A0_0 l0_0.length c0_0, .slice A0_1 l0_1.length c0_1, .slice A0_2 l0_2.length c0_2]) (t := 26) ?hr ?_; (case hd => rfl); (case hg => rfl); (case hr => first | (go_simp; done) | (go_simp; rfl)); intro gb hg_gb w2 hbox hb; have BKgb := Aside0.mk hbox; have n_HB := Aside0.mk (below_step HB.out hb); have GEgb : w.heap.size ≤ gb := (by rw [hg_gb]; exact HB.out.size); clear HB; have HB := n_HB; clear n_HB; have hfgb := blk_frozen BKgb.out; have hcgb_0 : w2.cell? ⟨gb, 0, none⟩ = some (.slice A0_0 l0_0.length c0_0) := (blk_cell BKgb.out 0).trans rfl; have hcgb_1 : w2.cell? ⟨gb, 1, none⟩ = some (.slice A0_1 l0_1.length c0_1) := (blk_cell BKgb.out 1).trans rfl; have hcgb_2 : w2.cell? ⟨gb, 2, none⟩ = some (.slice A0_2 l0_2.length c0_2) := (blk_cell BKgb.out 2).trans rfl; clear hbox hb hg_gb) | (go_at_call 54; refine (HVAL.out _ HB.out).mono ?_; rw [HV.out]; rintro e w3 ⟨rfl, hb⟩; have n_HB := Aside0.mk (below_step HB.out hb); clear HB; have HB := n_HB; clear n_HB; clear hb))
   go_ret
   exact ⟨rfl, HB.out⟩
  | true =>
   rw [hv] at HR
   have HV := Aside0.mk hv
   clear hv
   cases hp : inB a1 0 l0_0.length with
   | false =>
    rw [hp] at HR
    have hr2 : r = 2 := by rw [HR.out]; rfl
    have HP := Aside0.mk hp
    clear hp
    subst hr2
    go_enter Try.func70, Try.ntmps70
    go_wp2_with (first | ((with_reducible refine gate_dst (N := 3) rfl ?_); refine box_event ?hg (N := 3) ?hd (cs := #[.slice A0_0 l0_0.length c0_0, .slice A0_1 l0_1.length c0_1, .slice A0_2 l0_2.length c0_2]) (t := 26) ?hr ?_; (case hd => rfl); (case hg => rfl); (case hr => first | (go_simp; done) | (go_simp; rfl)); intro gb hg_gb w2 hbox hb; have BKgb := Aside0.mk hbox; have n_HB := Aside0.mk (below_step HB.out hb); have GEgb : w.heap.size ≤ gb := (by rw [hg_gb]; exact HB.out.size); clear HB; have HB := n_HB; clear n_HB; have hfgb := blk_frozen BKgb.out; have hcgb_0 : w2.cell? ⟨gb, 0, none⟩ = some (.slice A0_0 l0_0.length c0_0) := (blk_cell BKgb.out 0).trans rfl; have hcgb_1 : w2.cell? ⟨gb, 1, none⟩ = some (.slice A0_1 l0_1.length c0_1) := (blk_cell BKgb.out 1).trans rfl; have hcgb_2 : w2.cell? ⟨gb, 2, none⟩ = some (.slice A0_2 l0_2.length c0_2) := (blk_cell BKgb.out 2).trans rfl; clear hbox hb hg_gb) | (go_at_call 54; refine (HVAL.out _ HB.out).mono ?_; rw [HV.out]; rintro e w3 ⟨rfl, hb⟩; have n_BKgb := Aside0.mk (blk_below BKgb.out hb); clear BKgb; have BKgb := n_BKgb; clear n_BKgb; have n_HB := Aside0.mk (below_step HB.out hb); clear HB; have HB := n_HB; clear n_HB; clear hb; have hfgb := blk_frozen BKgb.out; have hcgb_0 : w3.cell? ⟨gb, 0, none⟩ = some (.slice A0_0 l0_0.length c0_0) := (blk_cell BKgb.out 0).trans rfl; have hcgb_1 : w3.cell? ⟨gb, 1, none⟩ = some (.slice A0_1 l0_1.length c0_1) := (blk_cell BKgb.out 1).trans rfl; have hcgb_2 : w3.cell? ⟨gb, 2, none⟩ = some (.slice A0_2 l0_2.length c0_2) := (blk_cell BKgb.out 2).trans rfl) | (go_at_call 62; refine (HPL.out _ HB.out).mono ?_; rw [HP.out]; rintro e w4 ⟨rfl, hb⟩; have n_BKgb := Aside0.mk (blk_below BKgb.out hb); clear BKgb; have BKgb := n_BKgb; clear n_BKgb; have n_HB := Aside0.mk (below_step HB.out hb); clear HB; have HB := n_HB; clear n_HB; clear hb; have hfgb := blk_frozen BKgb.out; have hcgb_0 : w4.cell? ⟨gb, 0, none⟩ = some (.slice A0_0 l0_0.length c0_0) := (blk_cell BKgb.out 0).trans rfl; have hcgb_1 : w4.cell? ⟨gb, 1, none⟩ = some (.slice A0_1 l0_1.length c0_1) := (blk_cell BKgb.out 1).trans rfl; have hcgb_2 : w4.cell? ⟨gb, 2, none⟩ = some (.slice A0_2 l0_2.length c0_2) := (blk_cell BKgb.out 2).trans rfl))
    go_ret
    exact ⟨rfl, HB.out⟩
   | true =>
    rw [hp] at HR
    have HP := Aside0.mk hp
    clear hp
    obtain ⟨b, hbb⟩ : ∃ b, b = l2.any fun f => !faultB l0_0 f := ⟨_, rfl⟩
    rw [← hbb] at HR
    have HBB := Aside0.mk hbb
    clear hbb
    have hany : ∀ gb W, Below w.heap.size w W → W.heap[gb]? = some (.cells #[.slice A0_0 l0_0.length c0_0, .slice A0_1 l0_1.length c0_1, .slice A0_2 l0_2.length c0_2] 26 (0, 0)) → Calls Try.prog 81 #[.slice A2 l2.length c2, .func (.func 95) #[] #[.pointer (some ⟨gb, 0, none⟩)]] W fun e w' => e = .returned (.bool b) ∧ Below W.heap.size W w' := fun gb W hW hg => by
     rw [HBB.out]
     exact has95 _ l2 _ _ (fun f => !faultB l0_0 f) W (Kd.C_below HR3.out hW) (fun i W' _ _ hb' => by
      have hW' := below_step hW hb'
      exact given1_calls _ _ l0_0 _ _ l0_1 _ _ l0_2 _ gb W' (Kd.C_below HR0.out hW') hc0_0 (Kd.C_below HR1.out hW') hc0_1 (Kd.C_below HR2.out hW') hc0_2 (blk_below hg hb'))
    have HANY := Aside0.mk hany
    clear hany
    cases b with
    | true =>
     have hr2 : r = 2 := by rw [HR.out]; rfl
     subst hr2
     go_enter Try.func70, Try.ntmps70
     go_wp2_with (first | ((with_reducible refine gate_dst (N := 3) rfl ?_); refine box_event ?hg (N := 3) ?hd (cs := #[.slice A0_0 l0_0.length c0_0, .slice A0_1 l0_1.length c0_1, .slice A0_2 l0_2.length c0_2]) (t := 26) ?hr ?_; (case hd => rfl); (case hg => rfl); (case hr => first | (go_simp; done) | (go_simp; rfl)); intro gb hg_gb w2 hbox hb; have BKgb := Aside0.mk hbox; have n_HB := Aside0.mk (below_step HB.out hb); have GEgb : w.heap.size ≤ gb := (by rw [hg_gb]; exact HB.out.size); clear HB; have HB := n_HB; clear n_HB; have hfgb := blk_frozen BKgb.out; have hcgb_0 : w2.cell? ⟨gb, 0, none⟩ = some (.slice A0_0 l0_0.length c0_0) := (blk_cell BKgb.out 0).trans rfl; have hcgb_1 : w2.cell? ⟨gb, 1, none⟩ = some (.slice A0_1 l0_1.length c0_1) := (blk_cell BKgb.out 1).trans rfl; have hcgb_2 : w2.cell? ⟨gb, 2, none⟩ = some (.slice A0_2 l0_2.length c0_2) := (blk_cell BKgb.out 2).trans rfl; clear hbox hb hg_gb) | (go_at_call 54; refine (HVAL.out _ HB.out).mono ?_; rw [HV.out]; rintro e w3 ⟨rfl, hb⟩; have n_BKgb := Aside0.mk (blk_below BKgb.out hb); clear BKgb; have BKgb := n_BKgb; clear n_BKgb; have n_HB := Aside0.mk (below_step HB.out hb); clear HB; have HB := n_HB; clear n_HB; clear hb; have hfgb := blk_frozen BKgb.out; have hcgb_0 : w3.cell? ⟨gb, 0, none⟩ = some (.slice A0_0 l0_0.length c0_0) := (blk_cell BKgb.out 0).trans rfl; have hcgb_1 : w3.cell? ⟨gb, 1, none⟩ = some (.slice A0_1 l0_1.length c0_1) := (blk_cell BKgb.out 1).trans rfl; have hcgb_2 : w3.cell? ⟨gb, 2, none⟩ = some (.slice A0_2 l0_2.length c0_2) := (blk_cell BKgb.out 2).trans rfl) | (go_at_call 62; refine (HPL.out _ HB.out).mono ?_; rw [HP.out]; rintro e w4 ⟨rfl, hb⟩; have n_BKgb := Aside0.mk (blk_below BKgb.out hb); clear BKgb; have BKgb := n_BKgb; clear n_BKgb; have n_HB := Aside0.mk (below_step HB.out hb); clear HB; have HB := n_HB; clear n_HB; clear hb; have hfgb := blk_frozen BKgb.out; have hcgb_0 : w4.cell? ⟨gb, 0, none⟩ = some (.slice A0_0 l0_0.length c0_0) := (blk_cell BKgb.out 0).trans rfl; have hcgb_1 : w4.cell? ⟨gb, 1, none⟩ = some (.slice A0_1 l0_1.length c0_1) := (blk_cell BKgb.out 1).trans rfl; have hcgb_2 : w4.cell? ⟨gb, 2, none⟩ = some (.slice A0_2 l0_2.length c0_2) := (blk_cell BKgb.out 2).trans rfl) | (go_at_call 81; refine (HANY.out gb _ HB.out BKgb.out).mono ?_; rintro e w5 ⟨rfl, hb⟩; have n_HB := Aside0.mk (below_step HB.out hb); clear HB; have HB := n_HB; clear n_HB; clear hb))
     go_ret
     exact ⟨rfl, HB.out⟩
    | false =>
     have hr2 : r = 0 := by rw [HR.out]; rfl
     subst hr2
     go_enter Try.func70, Try.ntmps70
     go_wp2_with (first | ((with_reducible refine gate_dst (N := 3) rfl ?_); refine box_event ?hg (N := 3) ?hd (cs := #[.slice A0_0 l0_0.length c0_0, .slice A0_1 l0_1.length c0_1, .slice A0_2 l0_2.length c0_2]) (t := 26) ?hr ?_; (case hd => rfl); (case hg => rfl); (case hr => first | (go_simp; done) | (go_simp; rfl)); intro gb hg_gb w2 hbox hb; have BKgb := Aside0.mk hbox; have n_HB := Aside0.mk (below_step HB.out hb); have GEgb : w.heap.size ≤ gb := (by rw [hg_gb]; exact HB.out.size); clear HB; have HB := n_HB; clear n_HB; have hfgb := blk_frozen BKgb.out; have hcgb_0 : w2.cell? ⟨gb, 0, none⟩ = some (.slice A0_0 l0_0.length c0_0) := (blk_cell BKgb.out 0).trans rfl; have hcgb_1 : w2.cell? ⟨gb, 1, none⟩ = some (.slice A0_1 l0_1.length c0_1) := (blk_cell BKgb.out 1).trans rfl; have hcgb_2 : w2.cell? ⟨gb, 2, none⟩ = some (.slice A0_2 l0_2.length c0_2) := (blk_cell BKgb.out 2).trans rfl; clear hbox hb hg_gb) | (go_at_call 54; refine (HVAL.out _ HB.out).mono ?_; rw [HV.out]; rintro e w3 ⟨rfl, hb⟩; have n_BKgb := Aside0.mk (blk_below BKgb.out hb); clear BKgb; have BKgb := n_BKgb; clear n_BKgb; have n_HB := Aside0.mk (below_step HB.out hb); clear HB; have HB := n_HB; clear n_HB; clear hb; have hfgb := blk_frozen BKgb.out; have hcgb_0 : w3.cell? ⟨gb, 0, none⟩ = some (.slice A0_0 l0_0.length c0_0) := (blk_cell BKgb.out 0).trans rfl; have hcgb_1 : w3.cell? ⟨gb, 1, none⟩ = some (.slice A0_1 l0_1.length c0_1) := (blk_cell BKgb.out 1).trans rfl; have hcgb_2 : w3.cell? ⟨gb, 2, none⟩ = some (.slice A0_2 l0_2.length c0_2) := (blk_cell BKgb.out 2).trans rfl) | (go_at_call 62; refine (HPL.out _ HB.out).mono ?_; rw [HP.out]; rintro e w4 ⟨rfl, hb⟩; have n_BKgb := Aside0.mk (blk_below BKgb.out hb); clear BKgb; have BKgb := n_BKgb; clear n_BKgb; have n_HB := Aside0.mk (below_step HB.out hb); clear HB; have HB := n_HB; clear n_HB; clear hb; have hfgb := blk_frozen BKgb.out; have hcgb_0 : w4.cell? ⟨gb, 0, none⟩ = some (.slice A0_0 l0_0.length c0_0) := (blk_cell BKgb.out 0).trans rfl; have hcgb_1 : w4.cell? ⟨gb, 1, none⟩ = some (.slice A0_1 l0_1.length c0_1) := (blk_cell BKgb.out 1).trans rfl; have hcgb_2 : w4.cell? ⟨gb, 2, none⟩ = some (.slice A0_2 l0_2.length c0_2) := (blk_cell BKgb.out 2).trans rfl) | (go_at_call 81; refine (HANY.out gb _ HB.out BKgb.out).mono ?_; rintro e w5 ⟨rfl, hb⟩; have n_HB := Aside0.mk (below_step HB.out hb); clear HB; have HB := n_HB; clear n_HB; clear hb))
     go_ret
     exact ⟨rfl, HB.out⟩
end Go.Proofs.Ytipphcjgdebecaa.PA
namespace Go.Proofs.Ytipphcjgdebecaa.PA
open Go.RowKit Go.Proofs.YtipphcjgdebecaaW.PrintWords Go.Proofs.YtipphcjgdebecaaW.PrintLast Go.Proofs.YtipphcjgdebecaaW.PrintMore
attribute [local go_sem] max2_int min2_int max_two min_two max_three min_three max_four min_four
set_option linter.unusedVariables false
set_option linter.unusedSimpArgs false
attribute [local go_sem] Oper.semAt_some
def numsOf (m : Nat) : List Int := (List.range m).map fun i : Nat => (i : Int)
theorem numsOf_succ (m : Nat) : numsOf (m + 1) = numsOf m ++ [(m : Int)] := by simp [numsOf, List.range_succ]
theorem numsOf_pre (k m : Nat) (h : k ≤ m) : numsOf k <+: numsOf m := by
 induction m with
 | zero => obtain rfl : k = 0 := by omega
      exact List.prefix_refl _
 | succ m ih =>
  rcases Nat.lt_or_ge k (m + 1) with hk | hk
  ·
   rw [numsOf_succ]
   exact (ih (by omega)).trans (List.prefix_append _ _)
  ·
   obtain rfl : k = m + 1 := by omega
   exact List.prefix_refl _
theorem numsOf_length (m : Nat) : (numsOf m).length = m := by simp [numsOf]
set_option maxRecDepth 100000 in
set_option maxHeartbeats 1000000 in
theorem numbers1_in (F : Fence) (n : Nat) (h6 : F.fn 96) (hro : F.round = none) (hn : 1 ≤ n) (l Bn : Nat) (m : Nat) (hm : m ≤ 1000) (J Jx : List Int → World → Prop)
  (hY : ∀ pre x W, x ∈ numsOf m → J pre W → pre.length < (numsOf m).length → YieldAt F (n - 1) Try.prog l #[.int .i64 x] W fun e W' =>
   (e = .returned (.bool true) ∧ J (pre ++ [x]) W' ∧ KeptAt Bn W W') ∨ (e = .returned (.bool false) ∧ Jx (pre ++ [x]) W'))
  (W : World) (hBn : W.heap[Bn]? = some (.cells #[.int .i64 m] 3 (0, 0))) (h0 : J [] W) :
  CallsIn F n Try.prog 96 #[.func (.yield l) #[] #[], .pointer (some ⟨Bn, 0, none⟩)] W fun e W' => (∃ v, e = .returned v) ∧
   ((∃ ys, ys = numsOf m ∧ J ys W') ∨ (∃ pre, pre <+: numsOf m ∧ Jx pre W')) := by
 refine callsIn_of_wp Try.func96 rfl h6 ?_ hro
 simp only [Try.ntmps96, List.size_toArray, List.length_cons, List.length_nil, Nat.reduceAdd, Nat.reduceSub, Array.replicate_succ, Array.replicate_zero, List.push_toArray, List.append_toArray, List.nil_append, List.cons_append]
 have hc0 : W.cell? ⟨Bn, 0, none⟩ = some (.int .i64 m) := (blk_cell hBn 0).trans rfl
 gi_wp2
 gi_loopw [5] (fun s wr => ∃ (k : Nat), k ≤ m ∧ s = .int .i64 k ∧ Aside0 (J (numsOf k) wr))
  (fun s _ => m - (intOf s).toNat)
 case atStart =>
  exact ⟨0, by omega, rfl, ⟨h0⟩⟩
 case round =>
  obtain ⟨k, hk, rfl, HJ⟩ := hrel
  by_cases hlt : k < m
  ·
   have hlt1 : (k : Int) < m := by omega
   obtain ⟨fn, tmps, assign, body, hy, hR⟩ := hY (numsOf k) k wr ((numsOf_pre (k + 1) m (by omega)).subset (by rw [numsOf_succ]; simp)) HJ.out (by rw [numsOf_length, numsOf_length]; exact hlt)
   gi_wp2
   try rw [hy]
   refine hR.mono ?_
   rintro e W3 (⟨rfl, hJ3, hk3⟩ | ⟨rfl, hJx3⟩)
   ·
    have HJ3 := Aside0.mk hJ3
    clear hJ3 hk3
    gi_wp2
    go_roundw
    case rel => exact ⟨k + 1, by omega, by go_num, ⟨by rw [numsOf_succ]; exact HJ3.out⟩⟩
    case measure => simp [intOf]; omega
   ·
    have HJ3 := Aside0.mk hJx3
    clear hJx3
    gi_wp2
    refine bodyPost_ret (results_none rfl _ _ _) rfl ?_
    exact ⟨⟨_, rfl⟩, .inr ⟨numsOf k ++ [(k : Int)], by rw [← numsOf_succ]; exact numsOf_pre (k + 1) m (by omega), HJ3.out⟩⟩
  ·
   obtain rfl : k = m := by omega
   gi_wp2
   go_end0
   exact ⟨⟨_, rfl⟩, .inl ⟨_, rfl, HJ.out⟩⟩
theorem numbers_stops (n : Nat) (hn : 1 ≤ n) (m : Nat) (hm : m ≤ 1000) (Bn : Nat) (w : World) (hBn : w.heap[Bn]? = some (.cells #[.int .i64 m] 3 (0, 0))) :
  SeqStopsK Fence.wide n Try.prog 96 #[.pointer (some ⟨Bn, 0, none⟩)] (fun x : { x : Int // x ∈ numsOf m } => #[.int .i64 x.1]) (KeptAt Bn) (fun xs => xs.map (·.1) = numsOf m) (fun pre => pre.map (·.1) <+: numsOf m) (numsOf m).length w := by
 intro l J Jx W hW hJ hJx hY h0
 refine (numbers1_in Fence.wide n trivial rfl hn l Bn m hm (fun pre W => ∃ p : List { x : Int // x ∈ numsOf m }, p.map (·.1) = pre ∧ J p W) (fun pre W => ∃ p : List { x : Int // x ∈ numsOf m }, p.map (·.1) = pre ∧ Jx p W) ?_ W ((hW.block Bn (blk_lt hBn)).trans hBn) ⟨[], rfl, h0⟩).mono ?_
 ·
  rintro pre x W1 hx ⟨p, rfl, hp⟩ hlen
  refine YieldAt_mono (hY p ⟨x, hx⟩ W1 hp (by simpa using hlen)) ?_
  rintro e W' (⟨rfl, h1, h2⟩ | ⟨rfl, h1⟩)
  ·
   exact .inl ⟨rfl, ⟨_, by simp, h1⟩, h2⟩
  ·
   exact .inr ⟨rfl, ⟨_, by simp, h1⟩⟩
 ·
  rintro e W' ⟨hv, (⟨ys, rfl, p, hp, h1⟩ | ⟨pre, hpre, p, rfl, h1⟩)⟩
  ·
   exact ⟨hv, .inl ⟨p, hp, h1⟩⟩
  ·
   exact ⟨hv, .inr ⟨p, hpre, h1⟩⟩
theorem numbers_calls (f : Int) (w : World) : Calls Try.prog 72 #[.int .i64 f] w fun e w' => ∃ B, e = .returned (.func (.func 96) #[] #[.pointer (some ⟨B, 0, none⟩)]) ∧ w'.heap[B]? = some (.cells #[.int .i64 f] 3 (0, 0)) ∧ w.heap.size ≤ B ∧ Below w.heap.size w w' := by
 have hmf : ∀ (fn : Fn) (first cap : Array Value) (w : World), (Instr.makeFunc fn first cap).run Try.prog w = .ok (.func fn first cap) w := fun _ _ _ _ => rfl
 have HB := Aside0.mk (Below.refl w.heap.size w)
 go_enter Try.func72, Try.ntmps72
 go_wp2_with ((with_reducible refine gate_dst (N := 1) rfl ?_); refine box_event ?hg (N := 1) ?hd (cs := #[.int .i64 f]) (t := 3) ?hr ?_; (case hd => rfl); (case hg => rfl); (case hr => first | (go_simp; done) | (go_simp; rfl)); intro gb hg_gb w2 hbox hb; have BKgb := Aside0.mk hbox; have n_HB := Aside0.mk (below_step HB.out hb); have GEgb : w.heap.size ≤ gb := (by rw [hg_gb]; exact HB.out.size); clear HB; have HB := n_HB; clear n_HB; have hfgb := blk_frozen BKgb.out; have hcgb_0 : w2.cell? ⟨gb, 0, none⟩ = some (.int .i64 f) := (blk_cell BKgb.out 0).trans rfl; clear hbox hb hg_gb)
 go_ret
 exact ⟨gb, rfl, BKgb.out, GEgb, HB.out⟩
end Go.Proofs.Ytipphcjgdebecaa.PA
namespace Go.Proofs.Ytipphcjgdebecaa.PA
open Go.RowKit Go.Proofs.YtipphcjgdebecaaW.PrintWords Go.Proofs.YtipphcjgdebecaaW.PrintLast Go.Proofs.YtipphcjgdebecaaW.PrintMore
attribute [local go_sem] max2_int min2_int max_two min_two max_three min_three max_four min_four
set_option linter.unusedVariables false
set_option linter.unusedSimpArgs false
attribute [local go_sem] Oper.semAt_some
set_option maxRecDepth 100000 in
set_option maxHeartbeats 4000000 in
theorem greatest73_calls {p : Int → Prop} {gf : Nat} {lb : Array Value} (egf : ∀ args w, (callFunc gf args).run Try.prog w = .ok (.enter gf args) w)
  {S Sp : List { x : Int // p x } → Prop} {N Bn : Nat} {w : World} (hBn : Bn < w.heap.size)
  (hseq : ∀ n, 1 ≤ n → SeqStopsK Fence.wide n Try.prog gf lb (fun x : { x : Int // p x } => #[.int .i64 x.1]) (KeptAt Bn) S Sp N w)
  (L : List Int) (hS : ∀ xs, S xs → xs.map (·.1) = L) {Inv : (Nat → Prop) → World → Prop} (HI : Held w.heap.size Inv) (T : Nat → Prop) (hT : ∀ k, T k → k < w.heap.size ∧ k ≠ Bn)
  (A0 : Nat → Prop) (c0 c1 : Value) (of : Int → Int × Bool)
  (hof : ∀ A W x, p x → (∀ k, A k → k < W.heap.size) → Inv A W → Calls Try.prog 73 #[.int .i64 x, c0, c1] W fun e W' => e = .returned (.tuple #[.int .i64 (of x).1, .bool (of x).2]) ∧ Inv A W' ∧ KB T W W')
  (h0 : Inv A0 w) (hA0 : ∀ k, A0 k → k < w.heap.size) :
  Calls Try.prog 71 #[.func (.func gf) #[] lb, .func (.func 73) #[] #[c0, c1]] w fun e W' => e = .returned (.tuple #[.int .i64 (g1 of L).1, .int .i64 (g1 of L).2.1, .bool (g1 of L).2.2]) ∧ Inv A0 W' ∧ KB T w W' := by
 refine (callsIn_wide (n := 8)).1 ?_
 refine callsIn_of_wp_marks Try.func71 rfl trivial ?_ rfl
 simp only [Try.ntmps71, List.size_toArray, List.length_cons, List.length_nil, Nat.reduceAdd, Nat.reduceSub, Array.replicate_succ, Array.replicate_zero, List.push_toArray, List.append_toArray, List.nil_append, List.cons_append]
 gi_wp2
 obtain ⟨w4, hw4, b3, b7, b8, b9, hsz, hb⟩ := allocs4 w (.cells #[.func (.func 73) #[] #[c0, c1]] 110) (.cells #[.int .i64 0] 3) (.cells #[.int .i64 0] 3) (.cells #[.bool false] 4)
 rw [hw4]
 clear hw4
 obtain ⟨A, hAe⟩ : ∃ A : Nat → Prop, A = (fun k => A0 k ∨ k = w.heap.size + 1 ∨ k = w.heap.size + 1 + 1 ∨ k = w.heap.size + 1 + 1 + 1) := ⟨_, rfl⟩
 have hA : ∀ k, A k → k < w4.heap.size := fun k hk => by
  rw [hAe] at hk
  rcases hk with hk | hk | hk | hk
  ·
   have := hA0 k hk
   omega
  ·
   omega
  ·
   omega
  ·
   omega
 have i0 : Inv A w4 := by
  refine HI.step _ w _ (HI.mono _ _ _ (fun k hk => ?_) (HI.fresh _ _ h0)) (KB.of_below hb _)
  rw [hAe] at hk
  rcases hk with hk | hk | hk | hk
  ·
   exact .inl hk
  ·
   exact .inr (by omega)
  ·
   exact .inr (by omega)
  ·
   exact .inr (by omega)
 refine wpIn_rangeFunc_ownG rfl (by omega) (gf := gf) (lb := lb) rfl trivial egf (hseq _ (by omega)) (fun h k => KeptAt.trans h k) (keptAt_put (by omega)) hb (fun _ => rfl)
  (fun pre W => Inv A W ∧ W.heap[w.heap.size]? = some (.cells #[.func (.func 73) #[] #[c0, c1]] 110 (0, 0)) ∧
   W.heap[w.heap.size + 1]? = some (.cells #[.int .i64 (g1 of (pre.map (·.1))).1] 3 (0, 0)) ∧ W.heap[w.heap.size + 1 + 1]? = some (.cells #[.int .i64 (g1 of (pre.map (·.1))).2.1] 3 (0, 0)) ∧
   W.heap[w.heap.size + 1 + 1 + 1]? = some (.cells #[.bool (g1 of (pre.map (·.1))).2.2] 4 (0, 0)) ∧ KB T w W)
  (fun _ _ _ => False) ?own (fun _ _ _ _ _ hs _ _ => hs) ⟨i0, b3, b7, b8, b9, KB.of_below hb T⟩
  (fun x => { tmps := #[.func (.func gf) #[] lb, .func (.func 73) #[] #[c0, c1], undef, .pointer (some ⟨w.heap.size, 0, none⟩), .int .i64 0, .int .i64 0, .bool false, .pointer (some ⟨w.heap.size + 1, 0, none⟩), .pointer (some ⟨w.heap.size + 1 + 1, 0, none⟩), .pointer (some ⟨w.heap.size + 1 + 1 + 1, 0, none⟩),
   .int .i64 x.1, undef, undef, .func (.func gf) #[] lb, .int .i64 x.1, undef, undef, undef, undef, undef, undef, undef, undef, undef, undef, undef, undef, undef, undef, undef, undef, undef, undef, undef, undef, undef], defers := [] }) ?assign ?body ?done ?stop
 case own =>
  rintro s A B row ⟨h1, h2, h3, h4, h5, h6⟩ hg hr
  refine ⟨HI.own _ _ _ row h1 hg (fun r e => ⟨by have := (hr r e).1; omega, (hr r e).2⟩), blk_own h2 hg hr, blk_own h3 hg hr, blk_own h4 hg hr, blk_own h5 hg hr, ?_⟩
  exact h6.trans (KB.of_grown hg) (fun k e => .inr (by have := (hr k e).1; omega))
 case assign =>
  intro l x W K hK
  gi_wp2
  exact hK
 case body =>
  rintro l pre x W ⟨h1, h2, h3, h4, h5, h6⟩ _
  have hlt : w4.heap.size ≤ W.heap.size ∨ True := .inr trivial
  have hd : 1 ≤ 8 - 1 - 1 := by omega
  obtain ⟨x, hx⟩ := x
  have hcall := hof A W x hx (fun k hk => by
   have e1 := blk_lt h5
   have := hA k hk
   omega) h1
  have hmap : (pre ++ [(⟨x, hx⟩ : { x : Int // p x })]).map (·.1) = pre.map (·.1) ++ [x] := by simp
  have HM := Aside0.mk hmap
  have hst := g1_snoc of (pre.map (·.1)) x
  unfold g1s at hst
  have HST := Aside0.mk hst
  clear hst hmap
  generalize hg1 : g1 of (pre.map (·.1)) = g at h3 h4 h5 HST
  obtain ⟨go, gm, gfo⟩ := g
  generalize hn1 : of x = n1 at HST hcall
  obtain ⟨n1, b1⟩ := n1
  dsimp only at h3 h4 h5 HST hcall
  have H1 := Aside0.mk h1
  have H2 := Aside0.mk h2
  have H3 := Aside0.mk h3
  have H4 := Aside0.mk h4
  have H5 := Aside0.mk h5
  have H6 := Aside0.mk h6
  have hc2 : W.cell? ⟨w.heap.size, 0, none⟩ = some (.func (.func 73) #[] #[c0, c1]) := blk_cell h2 0
  have hWs : w.heap.size ≤ W.heap.size := h6.size
  clear h1 h2 h3 h4 h5 h6 hof hseq hS
  gi_wp2
  refine ⟨trivial, (CallsIn.inRound l (callsIn_wide.2 hcall)).mono ?_⟩
  rintro e W2 ⟨rfl, i1, k1⟩
  clear hcall hc2
  have nT : ∀ j, w.heap.size ≤ j → ¬ T j := fun j hj hk => by have := (hT j hk).1; omega
  have J2 := k1.blk H2.out (nT _ (by omega))
  have J3 := k1.blk H3.out (nT _ (by omega))
  have J4 := k1.blk H4.out (nT _ (by omega))
  have J5 := k1.blk H5.out (nT _ (by omega))
  have KT := Aside0.mk (H6.out.trans k1 (fun k hk => .inl hk))
  have KW := Aside0.mk k1
  have I1 := Aside0.mk i1
  clear i1 k1 H2 H3 H4 H5 H6 H1
  have hc3 : W2.cell? ⟨w.heap.size + 1, 0, none⟩ = some (.int .i64 go) := blk_cell J3 0
  have hc4 : W2.cell? ⟨w.heap.size + 1 + 1, 0, none⟩ = some (.int .i64 gm) := blk_cell J4 0
  have hc5 : W2.cell? ⟨w.heap.size + 1 + 1 + 1, 0, none⟩ = some (.bool gfo) := blk_cell J5 0
  have hf3 : W2.frozen? ⟨w.heap.size + 1, 0, none⟩ = false := blk_frozen J3 0
  have hf4 : W2.frozen? ⟨w.heap.size + 1 + 1, 0, none⟩ = false := blk_frozen J4 0
  have hf5 : W2.frozen? ⟨w.heap.size + 1 + 1 + 1, 0, none⟩ = false := blk_frozen J5 0
  have KEEP : Aside0 (KeepsFrom w4.heap.size W W2 ∧ KeptAt Bn W W2) := ⟨KW.out.from (fun k hk => by have := (hT k hk).1; omega), KW.out.block Bn (by omega) (fun hk => (hT _ hk).2 rfl)⟩
  have B2 := Aside0.mk J2
  have B3 := Aside0.mk J3
  have B4 := Aside0.mk J4
  have B5 := Aside0.mk J5
  clear J2 J3 J4 J5
  have NO : ∀ a : Act, b1 = false ∨ (gfo = true ∧ ¬ n1 > gm) → ownPostG w4.heap.size (KeptAt Bn) (fun pre W => Inv A W ∧ W.heap[w.heap.size]? = some (.cells #[.func (.func 73) #[] #[c0, c1]] 110 (0, 0)) ∧
   W.heap[w.heap.size + 1]? = some (.cells #[.int .i64 (g1 of (pre.map (·.1))).1] 3 (0, 0)) ∧ W.heap[w.heap.size + 1 + 1]? = some (.cells #[.int .i64 (g1 of (pre.map (·.1))).2.1] 3 (0, 0)) ∧
   W.heap[w.heap.size + 1 + 1 + 1]? = some (.cells #[.bool (g1 of (pre.map (·.1))).2.2] 4 (0, 0)) ∧ KB T w W) (fun _ _ _ => False) (pre ++ [(⟨x, hx⟩ : { x : Int // p x })]) W .normal a W2 := by
   intro a hno
   have hv : g1 of (pre.map (·.1) ++ [x]) = (go, gm, gfo) := by
    rw [HST.out, if_neg]
    rintro ⟨ha, hb⟩
    rcases hno with hno | ⟨hno, hno2⟩
    ·
     rw [hno] at ha; cases ha
    ·
     rcases hb with hb | hb
     ·
      rw [hno] at hb; cases hb
     ·
      exact hno2 hb
   refine ⟨KEEP.out.1, KEEP.out.2, I1.out, B2.out, ?_⟩
   rw [HM.out, hv]
   exact ⟨B3.out, B4.out, B5.out, KT.out⟩
  have HNO := Aside0.mk NO
  clear NO
  have YES : ∀ a : Act, b1 = true ∧ (gfo = false ∨ n1 > gm) → ownPostG w4.heap.size (KeptAt Bn) (fun pre W => Inv A W ∧ W.heap[w.heap.size]? = some (.cells #[.func (.func 73) #[] #[c0, c1]] 110 (0, 0)) ∧
   W.heap[w.heap.size + 1]? = some (.cells #[.int .i64 (g1 of (pre.map (·.1))).1] 3 (0, 0)) ∧ W.heap[w.heap.size + 1 + 1]? = some (.cells #[.int .i64 (g1 of (pre.map (·.1))).2.1] 3 (0, 0)) ∧
   W.heap[w.heap.size + 1 + 1 + 1]? = some (.cells #[.bool (g1 of (pre.map (·.1))).2.2] 4 (0, 0)) ∧ KB T w W) (fun _ _ _ => False) (pre ++ [(⟨x, hx⟩ : { x : Int // p x })]) W .normal a (((W2.setCell ⟨w.heap.size + 1, 0, none⟩ (.int .i64 x)).setCell ⟨w.heap.size + 1 + 1, 0, none⟩ (.int .i64 n1)).setCell ⟨w.heap.size + 1 + 1 + 1, 0, none⟩ (.bool true)) := by
   intro a hyes
   have hv : g1 of (pre.map (·.1) ++ [x]) = (x, n1, true) := by
    rw [HST.out, if_pos hyes]
   have kA : ∀ S : Nat → Prop, S (w.heap.size + 1) → S (w.heap.size + 1 + 1) → S (w.heap.size + 1 + 1 + 1) → KB S W2 (((W2.setCell ⟨w.heap.size + 1, 0, none⟩ (.int .i64 x)).setCell ⟨w.heap.size + 1 + 1, 0, none⟩ (.int .i64 n1)).setCell ⟨w.heap.size + 1 + 1 + 1, 0, none⟩ (.bool true)) :=
    fun S s1 s2 s3 => (((KB.refl S W2).set (p := ⟨w.heap.size + 1, 0, none⟩) (.inl s1) _).set (p := ⟨w.heap.size + 1 + 1, 0, none⟩) (.inl s2) _).set (p := ⟨w.heap.size + 1 + 1 + 1, 0, none⟩) (.inl s3) _
   have kW := (KW.out.mono (T' := fun k => T k ∨ k = w.heap.size + 1 ∨ k = w.heap.size + 1 + 1 ∨ k = w.heap.size + 1 + 1 + 1) (fun k hk => .inl hk)).trans (kA _ (.inr (.inl rfl)) (.inr (.inr (.inl rfl))) (.inr (.inr (.inr rfl)))) (fun k hk => .inl hk)
   refine ⟨kW.from (fun k hk => ?_), kW.block Bn (by omega) (fun hk => ?_), HI.step _ _ _ I1.out (kA A ?_ ?_ ?_), ?_, ?_⟩
   ·
    rcases hk with hk | hk | hk | hk
    ·
     have := (hT k hk).1
     omega
    ·
     omega
    ·
     omega
    ·
     omega
   ·
    rcases hk with hk | hk | hk | hk
    ·
     exact (hT _ hk).2 rfl
    ·
     omega
    ·
     omega
    ·
     omega
   ·
    rw [hAe]; exact .inr (.inl rfl)
   ·
    rw [hAe]; exact .inr (.inr (.inl rfl))
   ·
    rw [hAe]; exact .inr (.inr (.inr rfl))
   ·
    exact blk_far (blk_far (blk_far B2.out (by dsimp only; omega) _) (by dsimp only; omega) _) (by dsimp only; omega) _
   ·
    rw [HM.out, hv]
    refine ⟨?_, ?_, ?_, ?_⟩
    ·
     exact blk_far (blk_far (blk_set B3.out 0 _) (by dsimp only; omega) _) (by dsimp only; omega) _
    ·
     exact blk_far (blk_set (blk_far B4.out (by dsimp only; omega) _) 0 _) (by dsimp only; omega) _
    ·
     exact blk_set (blk_far (blk_far B5.out (by dsimp only; omega) _) (by dsimp only; omega) _) 0 _
    ·
     exact KT.out.trans (kA (fun k => w.heap.size ≤ k) (by omega) (by omega) (by omega)) (fun k hk => .inr hk)
  have HYES := Aside0.mk YES
  clear YES
  cases b1 with
  | false =>
   gi_wp2
   exact HNO.out _ (by simp)
  | true =>
   cases gfo with
   | false =>
    gi_wp2
    exact HYES.out _ (by simp)
   | true =>
    by_cases hgt : n1 > gm
    ·
     gi_wp2
     exact HYES.out _ (by simp [hgt])
    ·
     gi_wp2
     exact HNO.out _ (by simp [hgt])
 case done =>
  rintro D xs W hD hSx ⟨h1, h2, h3, h4, h5, h6⟩ hK
  have hl := hS xs hSx
  rw [hl] at h3 h4 h5
  have hc3 : W.cell? ⟨w.heap.size + 1, 0, none⟩ = some (.int .i64 (g1 of L).1) := blk_cell h3 0
  have hc4 : W.cell? ⟨w.heap.size + 1 + 1, 0, none⟩ = some (.int .i64 (g1 of L).2.1) := blk_cell h4 0
  have hc5 : W.cell? ⟨w.heap.size + 1 + 1 + 1, 0, none⟩ = some (.bool (g1 of L).2.2) := blk_cell h5 0
  clear hof hseq hS h2 h3 h4 h5
  generalize hgL : g1 of L = g at hc3 hc4 hc5
  have HG := Aside0.mk hgL
  clear hgL
  have H1 := Aside0.mk h1
  have H6 := Aside0.mk h6
  have HK := Aside0.mk hK
  clear h1 h6 hK
  gi_wp2
  gi_region
  all_goals gi_wp2
  refine ⟨by simp, .inl ⟨_, _, rfl, run_takeDeferred (show W.drew.heap[D]? = _ from HK.out), ?_⟩⟩
  have hput := grownBy_putObj' W.drew D (.deferred none)
  have hrow : ∀ r, some D = some r → w.heap.size ≤ r ∧ ∃ o : Obj, W.drew.heap[r]? = some o ∧ o.isCells = false := fun r e => by
   injection e with e
   subst e
   exact ⟨by omega, _, HK.out, rfl⟩
  have hid : Inv A W.drew := HI.own A W W.drew none H1.out ⟨rfl, rfl, rfl, Nat.le_refl _, fun _ _ _ => rfl⟩ (fun r e => by cases e)
  have hi2 := HI.own A W.drew _ (some D) hid hput hrow
  refine ⟨_, results_tmp3 rfl _ _ _, by rw [HG.out]; rfl, HI.mono _ _ _ (fun k hk => by rw [hAe]; exact .inl hk) hi2, ?_⟩
  have hk6 : KB T w W.drew := ⟨H6.out.os, H6.out.tape, H6.out.output, H6.out.size, H6.out.block⟩
  exact hk6.trans (KB.of_grown hput) (fun k e => .inr (by injection e with e; omega))
 case stop =>
  rintro D c pre W _ _ h _
  exact h.elim
set_option maxRecDepth 100000 in
set_option maxHeartbeats 4000000 in
theorem greatest75_calls {p : Int → Prop} {gf : Nat} {lb : Array Value} (egf : ∀ args w, (callFunc gf args).run Try.prog w = .ok (.enter gf args) w)
  {S Sp : List { x : Int // p x } → Prop} {N Bn : Nat} {w : World} (hBn : Bn < w.heap.size)
  (hseq : ∀ n, 1 ≤ n → SeqStopsK Fence.wide n Try.prog gf lb (fun x : { x : Int // p x } => #[.int .i64 x.1]) (KeptAt Bn) S Sp N w)
  (L : List Int) (hS : ∀ xs, S xs → xs.map (·.1) = L) {Inv : (Nat → Prop) → World → Prop} (HI : Held w.heap.size Inv) (T : Nat → Prop) (hT : ∀ k, T k → k < w.heap.size ∧ k ≠ Bn)
  (A0 : Nat → Prop) (c0 c1 c2 : Value) (of : Int → Int × Bool)
  (hof : ∀ A W x, p x → (∀ k, A k → k < W.heap.size) → Inv A W → Calls Try.prog 75 #[.int .i64 x, c0, c1, c2] W fun e W' => e = .returned (.tuple #[.int .i64 (of x).1, .bool (of x).2]) ∧ Inv A W' ∧ KB T W W')
  (h0 : Inv A0 w) (hA0 : ∀ k, A0 k → k < w.heap.size) :
  Calls Try.prog 71 #[.func (.func gf) #[] lb, .func (.func 75) #[] #[c0, c1, c2]] w fun e W' => e = .returned (.tuple #[.int .i64 (g1 of L).1, .int .i64 (g1 of L).2.1, .bool (g1 of L).2.2]) ∧ Inv A0 W' ∧ KB T w W' := by
 refine (callsIn_wide (n := 8)).1 ?_
 refine callsIn_of_wp_marks Try.func71 rfl trivial ?_ rfl
 simp only [Try.ntmps71, List.size_toArray, List.length_cons, List.length_nil, Nat.reduceAdd, Nat.reduceSub, Array.replicate_succ, Array.replicate_zero, List.push_toArray, List.append_toArray, List.nil_append, List.cons_append]
 gi_wp2
 obtain ⟨w4, hw4, b3, b7, b8, b9, hsz, hb⟩ := allocs4 w (.cells #[.func (.func 75) #[] #[c0, c1, c2]] 110) (.cells #[.int .i64 0] 3) (.cells #[.int .i64 0] 3) (.cells #[.bool false] 4)
 rw [hw4]
 clear hw4
 obtain ⟨A, hAe⟩ : ∃ A : Nat → Prop, A = (fun k => A0 k ∨ k = w.heap.size + 1 ∨ k = w.heap.size + 1 + 1 ∨ k = w.heap.size + 1 + 1 + 1) := ⟨_, rfl⟩
 have hA : ∀ k, A k → k < w4.heap.size := fun k hk => by
  rw [hAe] at hk
  rcases hk with hk | hk | hk | hk
  ·
   have := hA0 k hk
   omega
  ·
   omega
  ·
   omega
  ·
   omega
 have i0 : Inv A w4 := by
  refine HI.step _ w _ (HI.mono _ _ _ (fun k hk => ?_) (HI.fresh _ _ h0)) (KB.of_below hb _)
  rw [hAe] at hk
  rcases hk with hk | hk | hk | hk
  ·
   exact .inl hk
  ·
   exact .inr (by omega)
  ·
   exact .inr (by omega)
  ·
   exact .inr (by omega)
 refine wpIn_rangeFunc_ownG rfl (by omega) (gf := gf) (lb := lb) rfl trivial egf (hseq _ (by omega)) (fun h k => KeptAt.trans h k) (keptAt_put (by omega)) hb (fun _ => rfl)
  (fun pre W => Inv A W ∧ W.heap[w.heap.size]? = some (.cells #[.func (.func 75) #[] #[c0, c1, c2]] 110 (0, 0)) ∧
   W.heap[w.heap.size + 1]? = some (.cells #[.int .i64 (g1 of (pre.map (·.1))).1] 3 (0, 0)) ∧ W.heap[w.heap.size + 1 + 1]? = some (.cells #[.int .i64 (g1 of (pre.map (·.1))).2.1] 3 (0, 0)) ∧
   W.heap[w.heap.size + 1 + 1 + 1]? = some (.cells #[.bool (g1 of (pre.map (·.1))).2.2] 4 (0, 0)) ∧ KB T w W)
  (fun _ _ _ => False) ?own (fun _ _ _ _ _ hs _ _ => hs) ⟨i0, b3, b7, b8, b9, KB.of_below hb T⟩
  (fun x => { tmps := #[.func (.func gf) #[] lb, .func (.func 75) #[] #[c0, c1, c2], undef, .pointer (some ⟨w.heap.size, 0, none⟩), .int .i64 0, .int .i64 0, .bool false, .pointer (some ⟨w.heap.size + 1, 0, none⟩), .pointer (some ⟨w.heap.size + 1 + 1, 0, none⟩), .pointer (some ⟨w.heap.size + 1 + 1 + 1, 0, none⟩),
   .int .i64 x.1, undef, undef, .func (.func gf) #[] lb, .int .i64 x.1, undef, undef, undef, undef, undef, undef, undef, undef, undef, undef, undef, undef, undef, undef, undef, undef, undef, undef, undef, undef, undef], defers := [] }) ?assign ?body ?done ?stop
 case own =>
  rintro s A B row ⟨h1, h2, h3, h4, h5, h6⟩ hg hr
  refine ⟨HI.own _ _ _ row h1 hg (fun r e => ⟨by have := (hr r e).1; omega, (hr r e).2⟩), blk_own h2 hg hr, blk_own h3 hg hr, blk_own h4 hg hr, blk_own h5 hg hr, ?_⟩
  exact h6.trans (KB.of_grown hg) (fun k e => .inr (by have := (hr k e).1; omega))
 case assign =>
  intro l x W K hK
  gi_wp2
  exact hK
 case body =>
  rintro l pre x W ⟨h1, h2, h3, h4, h5, h6⟩ _
  have hlt : w4.heap.size ≤ W.heap.size ∨ True := .inr trivial
  have hd : 1 ≤ 8 - 1 - 1 := by omega
  obtain ⟨x, hx⟩ := x
  have hcall := hof A W x hx (fun k hk => by
   have e1 := blk_lt h5
   have := hA k hk
   omega) h1
  have hmap : (pre ++ [(⟨x, hx⟩ : { x : Int // p x })]).map (·.1) = pre.map (·.1) ++ [x] := by simp
  have HM := Aside0.mk hmap
  have hst := g1_snoc of (pre.map (·.1)) x
  unfold g1s at hst
  have HST := Aside0.mk hst
  clear hst hmap
  generalize hg1 : g1 of (pre.map (·.1)) = g at h3 h4 h5 HST
  obtain ⟨go, gm, gfo⟩ := g
  generalize hn1 : of x = n1 at HST hcall
  obtain ⟨n1, b1⟩ := n1
  dsimp only at h3 h4 h5 HST hcall
  have H1 := Aside0.mk h1
  have H2 := Aside0.mk h2
  have H3 := Aside0.mk h3
  have H4 := Aside0.mk h4
  have H5 := Aside0.mk h5
  have H6 := Aside0.mk h6
  have hc2 : W.cell? ⟨w.heap.size, 0, none⟩ = some (.func (.func 75) #[] #[c0, c1, c2]) := blk_cell h2 0
  have hWs : w.heap.size ≤ W.heap.size := h6.size
  clear h1 h2 h3 h4 h5 h6 hof hseq hS
  gi_wp2
  refine ⟨trivial, (CallsIn.inRound l (callsIn_wide.2 hcall)).mono ?_⟩
  rintro e W2 ⟨rfl, i1, k1⟩
  clear hcall hc2
  have nT : ∀ j, w.heap.size ≤ j → ¬ T j := fun j hj hk => by have := (hT j hk).1; omega
  have J2 := k1.blk H2.out (nT _ (by omega))
  have J3 := k1.blk H3.out (nT _ (by omega))
  have J4 := k1.blk H4.out (nT _ (by omega))
  have J5 := k1.blk H5.out (nT _ (by omega))
  have KT := Aside0.mk (H6.out.trans k1 (fun k hk => .inl hk))
  have KW := Aside0.mk k1
  have I1 := Aside0.mk i1
  clear i1 k1 H2 H3 H4 H5 H6 H1
  have hc3 : W2.cell? ⟨w.heap.size + 1, 0, none⟩ = some (.int .i64 go) := blk_cell J3 0
  have hc4 : W2.cell? ⟨w.heap.size + 1 + 1, 0, none⟩ = some (.int .i64 gm) := blk_cell J4 0
  have hc5 : W2.cell? ⟨w.heap.size + 1 + 1 + 1, 0, none⟩ = some (.bool gfo) := blk_cell J5 0
  have hf3 : W2.frozen? ⟨w.heap.size + 1, 0, none⟩ = false := blk_frozen J3 0
  have hf4 : W2.frozen? ⟨w.heap.size + 1 + 1, 0, none⟩ = false := blk_frozen J4 0
  have hf5 : W2.frozen? ⟨w.heap.size + 1 + 1 + 1, 0, none⟩ = false := blk_frozen J5 0
  have KEEP : Aside0 (KeepsFrom w4.heap.size W W2 ∧ KeptAt Bn W W2) := ⟨KW.out.from (fun k hk => by have := (hT k hk).1; omega), KW.out.block Bn (by omega) (fun hk => (hT _ hk).2 rfl)⟩
  have B2 := Aside0.mk J2
  have B3 := Aside0.mk J3
  have B4 := Aside0.mk J4
  have B5 := Aside0.mk J5
  clear J2 J3 J4 J5
  have NO : ∀ a : Act, b1 = false ∨ (gfo = true ∧ ¬ n1 > gm) → ownPostG w4.heap.size (KeptAt Bn) (fun pre W => Inv A W ∧ W.heap[w.heap.size]? = some (.cells #[.func (.func 75) #[] #[c0, c1, c2]] 110 (0, 0)) ∧
   W.heap[w.heap.size + 1]? = some (.cells #[.int .i64 (g1 of (pre.map (·.1))).1] 3 (0, 0)) ∧ W.heap[w.heap.size + 1 + 1]? = some (.cells #[.int .i64 (g1 of (pre.map (·.1))).2.1] 3 (0, 0)) ∧
   W.heap[w.heap.size + 1 + 1 + 1]? = some (.cells #[.bool (g1 of (pre.map (·.1))).2.2] 4 (0, 0)) ∧ KB T w W) (fun _ _ _ => False) (pre ++ [(⟨x, hx⟩ : { x : Int // p x })]) W .normal a W2 := by
   intro a hno
   have hv : g1 of (pre.map (·.1) ++ [x]) = (go, gm, gfo) := by
    rw [HST.out, if_neg]
    rintro ⟨ha, hb⟩
    rcases hno with hno | ⟨hno, hno2⟩
    ·
     rw [hno] at ha; cases ha
    ·
     rcases hb with hb | hb
     ·
      rw [hno] at hb; cases hb
     ·
      exact hno2 hb
   refine ⟨KEEP.out.1, KEEP.out.2, I1.out, B2.out, ?_⟩
   rw [HM.out, hv]
   exact ⟨B3.out, B4.out, B5.out, KT.out⟩
  have HNO := Aside0.mk NO
  clear NO
  have YES : ∀ a : Act, b1 = true ∧ (gfo = false ∨ n1 > gm) → ownPostG w4.heap.size (KeptAt Bn) (fun pre W => Inv A W ∧ W.heap[w.heap.size]? = some (.cells #[.func (.func 75) #[] #[c0, c1, c2]] 110 (0, 0)) ∧
   W.heap[w.heap.size + 1]? = some (.cells #[.int .i64 (g1 of (pre.map (·.1))).1] 3 (0, 0)) ∧ W.heap[w.heap.size + 1 + 1]? = some (.cells #[.int .i64 (g1 of (pre.map (·.1))).2.1] 3 (0, 0)) ∧
   W.heap[w.heap.size + 1 + 1 + 1]? = some (.cells #[.bool (g1 of (pre.map (·.1))).2.2] 4 (0, 0)) ∧ KB T w W) (fun _ _ _ => False) (pre ++ [(⟨x, hx⟩ : { x : Int // p x })]) W .normal a (((W2.setCell ⟨w.heap.size + 1, 0, none⟩ (.int .i64 x)).setCell ⟨w.heap.size + 1 + 1, 0, none⟩ (.int .i64 n1)).setCell ⟨w.heap.size + 1 + 1 + 1, 0, none⟩ (.bool true)) := by
   intro a hyes
   have hv : g1 of (pre.map (·.1) ++ [x]) = (x, n1, true) := by
    rw [HST.out, if_pos hyes]
   have kA : ∀ S : Nat → Prop, S (w.heap.size + 1) → S (w.heap.size + 1 + 1) → S (w.heap.size + 1 + 1 + 1) → KB S W2 (((W2.setCell ⟨w.heap.size + 1, 0, none⟩ (.int .i64 x)).setCell ⟨w.heap.size + 1 + 1, 0, none⟩ (.int .i64 n1)).setCell ⟨w.heap.size + 1 + 1 + 1, 0, none⟩ (.bool true)) :=
    fun S s1 s2 s3 => (((KB.refl S W2).set (p := ⟨w.heap.size + 1, 0, none⟩) (.inl s1) _).set (p := ⟨w.heap.size + 1 + 1, 0, none⟩) (.inl s2) _).set (p := ⟨w.heap.size + 1 + 1 + 1, 0, none⟩) (.inl s3) _
   have kW := (KW.out.mono (T' := fun k => T k ∨ k = w.heap.size + 1 ∨ k = w.heap.size + 1 + 1 ∨ k = w.heap.size + 1 + 1 + 1) (fun k hk => .inl hk)).trans (kA _ (.inr (.inl rfl)) (.inr (.inr (.inl rfl))) (.inr (.inr (.inr rfl)))) (fun k hk => .inl hk)
   refine ⟨kW.from (fun k hk => ?_), kW.block Bn (by omega) (fun hk => ?_), HI.step _ _ _ I1.out (kA A ?_ ?_ ?_), ?_, ?_⟩
   ·
    rcases hk with hk | hk | hk | hk
    ·
     have := (hT k hk).1
     omega
    ·
     omega
    ·
     omega
    ·
     omega
   ·
    rcases hk with hk | hk | hk | hk
    ·
     exact (hT _ hk).2 rfl
    ·
     omega
    ·
     omega
    ·
     omega
   ·
    rw [hAe]; exact .inr (.inl rfl)
   ·
    rw [hAe]; exact .inr (.inr (.inl rfl))
   ·
    rw [hAe]; exact .inr (.inr (.inr rfl))
   ·
    exact blk_far (blk_far (blk_far B2.out (by dsimp only; omega) _) (by dsimp only; omega) _) (by dsimp only; omega) _
   ·
    rw [HM.out, hv]
    refine ⟨?_, ?_, ?_, ?_⟩
    ·
     exact blk_far (blk_far (blk_set B3.out 0 _) (by dsimp only; omega) _) (by dsimp only; omega) _
    ·
     exact blk_far (blk_set (blk_far B4.out (by dsimp only; omega) _) 0 _) (by dsimp only; omega) _
    ·
     exact blk_set (blk_far (blk_far B5.out (by dsimp only; omega) _) (by dsimp only; omega) _) 0 _
    ·
     exact KT.out.trans (kA (fun k => w.heap.size ≤ k) (by omega) (by omega) (by omega)) (fun k hk => .inr hk)
  have HYES := Aside0.mk YES
  clear YES
  cases b1 with
  | false =>
   gi_wp2
   exact HNO.out _ (by simp)
  | true =>
   cases gfo with
   | false =>
    gi_wp2
    exact HYES.out _ (by simp)
   | true =>
    by_cases hgt : n1 > gm
    ·
     gi_wp2
     exact HYES.out _ (by simp [hgt])
    ·
     gi_wp2
     exact HNO.out _ (by simp [hgt])
 case done =>
  rintro D xs W hD hSx ⟨h1, h2, h3, h4, h5, h6⟩ hK
  have hl := hS xs hSx
  rw [hl] at h3 h4 h5
  have hc3 : W.cell? ⟨w.heap.size + 1, 0, none⟩ = some (.int .i64 (g1 of L).1) := blk_cell h3 0
  have hc4 : W.cell? ⟨w.heap.size + 1 + 1, 0, none⟩ = some (.int .i64 (g1 of L).2.1) := blk_cell h4 0
  have hc5 : W.cell? ⟨w.heap.size + 1 + 1 + 1, 0, none⟩ = some (.bool (g1 of L).2.2) := blk_cell h5 0
  clear hof hseq hS h2 h3 h4 h5
  generalize hgL : g1 of L = g at hc3 hc4 hc5
  have HG := Aside0.mk hgL
  clear hgL
  have H1 := Aside0.mk h1
  have H6 := Aside0.mk h6
  have HK := Aside0.mk hK
  clear h1 h6 hK
  gi_wp2
  gi_region
  all_goals gi_wp2
  refine ⟨by simp, .inl ⟨_, _, rfl, run_takeDeferred (show W.drew.heap[D]? = _ from HK.out), ?_⟩⟩
  have hput := grownBy_putObj' W.drew D (.deferred none)
  have hrow : ∀ r, some D = some r → w.heap.size ≤ r ∧ ∃ o : Obj, W.drew.heap[r]? = some o ∧ o.isCells = false := fun r e => by
   injection e with e
   subst e
   exact ⟨by omega, _, HK.out, rfl⟩
  have hid : Inv A W.drew := HI.own A W W.drew none H1.out ⟨rfl, rfl, rfl, Nat.le_refl _, fun _ _ _ => rfl⟩ (fun r e => by cases e)
  have hi2 := HI.own A W.drew _ (some D) hid hput hrow
  refine ⟨_, results_tmp3 rfl _ _ _, by rw [HG.out]; rfl, HI.mono _ _ _ (fun k hk => by rw [hAe]; exact .inl hk) hi2, ?_⟩
  have hk6 : KB T w W.drew := ⟨H6.out.os, H6.out.tape, H6.out.output, H6.out.size, H6.out.block⟩
  exact hk6.trans (KB.of_grown hput) (fun k e => .inr (by injection e with e; omega))
 case stop =>
  rintro D c pre W _ _ h _
  exact h.elim
end Go.Proofs.Ytipphcjgdebecaa.PA
namespace Go.Proofs.Ytipphcjgdebecaa.PA
open Go.RowKit Go.Proofs.YtipphcjgdebecaaW.PrintWords Go.Proofs.YtipphcjgdebecaaW.PrintLast Go.Proofs.YtipphcjgdebecaaW.PrintMore
attribute [local go_sem] max2_int min2_int max_two min_two max_three min_three max_four min_four
set_option linter.unusedVariables false
set_option linter.unusedSimpArgs false
def pipe_net_weak.l0 : Nat → Int → Int → List Int → Int → Int → List (S39) → List (S37) → List (List Int) → Int → Option (Int × Int)
 | 0, _, _, _, _, _, _, _, _, _ => none
 | k + 1, x1, x8, x16, x17, x18, x491000, x491001, x491002, x491003 => if x18 < x17 then (if 0 ≤ x18 then (if x18 < (x16.length : Int) then ((pipe_net_order.f x491000 x491001 x491002 x491003 x1 (rd x16 x18)).bind fun bt492 => (if bt492.2.2 = true then (pipe_net_weak.l0 k x1 (mn x8 bt492.2.1) x16 x17 (wrap64 (x18 + 1)) x491000 x491001 x491002 x491003) else (some (x18, 0)))) else (none)) else (none)) else (some ((-1), x8))
def pipe_net_weak.f (k : Nat) (l0_0 : List (S39)) (l0_1 : List (S37)) (l0_2 : List (List Int)) (a0_3 : Int) (a1 : Int) (l2 : List Int) : Option (Int × Int) := pipe_net_weak.l0 k a1 (l0_1.length : Int) l2 (l2.length : Int) 0 l0_0 l0_1 l0_2 a0_3
set_option maxHeartbeats 8000000 in
set_option maxRecDepth 100000 in
theorem pipe_net_weak.calls (k : Nat) (A0_0 : Option Addr) (c0_0 : Nat) (l0_0 : List (S39)) (A0_1 : Option Addr) (c0_1 : Nat) (l0_1 : List (S37)) (A0_2 : Option Addr) (c0_2 : Nat) (l0_2 : List (List Int)) (a0_3 : Int) (a1 : Int) (A2 : Option Addr) (c2 : Nat) (l2 : List Int) (r1 : Int) (r2 : Int) (w : World) (hr0_0 : Kd.C k39 w A0_0 l0_0.length l0_0) (hc0_0 : l0_0.length ≤ c0_0) (hr0_1 : Kd.C k37 w A0_1 l0_1.length l0_1) (hc0_1 : l0_1.length ≤ c0_1) (hr0_2 : Kd.C (Kd.slice 3 (Kd.int .i64)) w A0_2 l0_2.length l0_2) (hc0_2 : l0_2.length ≤ c0_2) (hr2 : Kd.C (Kd.int .i64) w A2 l2.length l2) (hc2 : l2.length ≤ c2) (h : pipe_net_weak.f k l0_0 l0_1 l0_2 a0_3 a1 l2 = some (r1, r2)) :
  Calls Try.prog 74 #[.agg #[.slice A0_0 l0_0.length c0_0, .slice A0_1 l0_1.length c0_1, .slice A0_2 l0_2.length c0_2, .int .i64 a0_3], .int .i64 a1, .slice A2 l2.length c2] w fun e w' => e = .returned (.tuple #[.int .i64 r1, .int .i64 r2]) ∧ Below w.heap.size w w' := by
 have hu99 := Try.underlying99
 have hu97 := Try.underlying97
 have HR0_0 := Aside0.mk hr0_0
 have HC0_0 := Aside0.mk hc0_0
 clear hr0_0 hc0_0
 have HR0_1 := Aside0.mk hr0_1
 have HC0_1 := Aside0.mk hc0_1
 clear hr0_1 hc0_1
 have HR0_2 := Aside0.mk hr0_2
 have HC0_2 := Aside0.mk hc0_2
 clear hr0_2 hc0_2
 have HR2 := Aside0.mk hr2
 have HC2 := Aside0.mk hc2
 clear hr2 hc2
 have HB := Aside0.mk (Below.refl w.heap.size w)
 have H : (pipe_net_weak.l0 k a1 (l0_1.length : Int) l2 (l2.length : Int) 0 l0_0 l0_1 l0_2 a0_3) = some (r1, r2) := h
 clear h
 have H' := Aside0.mk H
 clear H
 go_enter Try.func74, Try.ntmps74
 go_wp2_with (first | ((with_reducible refine gate_dst (N := 3) rfl ?_); refine box_event ?hg (N := 3) ?hd (cs := #[.slice A0_0 l0_0.length c0_0, .slice A0_1 l0_1.length c0_1, .slice A0_2 l0_2.length c0_2, .int .i64 a0_3]) (t := 99) ?hr ?_; (case hd => rfl); (case hg => rfl); (case hr => first | (go_simp; done) | (go_simp; rfl)); intro gb490 hg w4 hbox hb; have n0_ := Aside0.mk (below_step (by repeat (first | (with_reducible first | exact HB.out | apply below_alloc | apply pw_below_drewN | apply below_drew1) | exact HB.out)) hb); have n1_ := Aside0.mk (hbox); have n2_ := Aside0.mk ((by rw [hg]; exact (below_size (by repeat (first | (with_reducible first | exact HB.out | apply below_alloc | apply pw_below_drewN | apply below_drew1) | exact HB.out))) : w.heap.size ≤ gb490)); have n3_ := Aside0.mk ((by rw [hg]; exact (below_size (by repeat (first | (with_reducible first | exact HB.out | apply below_alloc | apply pw_below_drewN | apply below_drew1) | exact HB.out))) : w.heap.size ≤ gb490)); clear HB; have HB := n0_; have BK490 := n1_; have GW490 := n2_; have GE490 := n3_; clear n0_ n1_ n2_ n3_; clear hb hbox hg; have hcz5_0 : w4.cell? ⟨gb490, 0, none⟩ = some (.slice A0_0 l0_0.length c0_0) := (blk_cell BK490.out 0).trans rfl; have hcz5_1 : w4.cell? ⟨gb490, 1, none⟩ = some (.slice A0_1 l0_1.length c0_1) := (blk_cell BK490.out 1).trans rfl; have hcz5_2 : w4.cell? ⟨gb490, 2, none⟩ = some (.slice A0_2 l0_2.length c0_2) := (blk_cell BK490.out 2).trans rfl; have hcz5_3 : w4.cell? ⟨gb490, 3, none⟩ = some (.int .i64 a0_3) := (blk_cell BK490.out 3).trans rfl; have hfz5_0 := blk_frozen BK490.out 0; have hfz5_1 := blk_frozen BK490.out 1; have hfz5_2 := blk_frozen BK490.out 2; have hfz5_3 := blk_frozen BK490.out 3))
 go_loopg [8, 18] k (fun kq v8 v18 w' => ∃ (x8_1 : Int) (x18_1 : Int), v8 = .int .i64 x8_1 ∧ v18 = .int .i64 x18_1 ∧ Aside0 (pipe_net_weak.l0 kq a1 x8_1 l2 (l2.length : Int) x18_1 l0_0 l0_1 l0_2 a0_3 = some (r1, r2)) ∧ Aside0 (kq ≤ k) ∧ Aside0 (w'.heap[gb490]? = some (.cells #[(.slice A0_0 l0_0.length c0_0), (.slice A0_1 l0_1.length c0_1), (.slice A0_2 l0_2.length c0_2), .int .i64 a0_3] 99 (0, 0))) ∧ Aside0 (Below w.heap.size w w'))
 case atStart => exact ⟨((l0_1.length : Int)), (0), (by first | rfl | (simp; done) | (simp [*]; done)), (by first | rfl | (simp; done) | (simp [*]; done)), H', ⟨Nat.le_refl _⟩, ⟨by (with_reducible repeat (first | refine blk_drewN ?_ _ | refine blk_drew ?_ | refine blk_alloc ?_ _)); exact BK490.out⟩, ⟨by repeat (first | (with_reducible first | exact HB.out | apply below_alloc | apply pw_below_drewN | apply below_drew1 | refine below_set ?_ GE490.out) | exact HB.out)⟩⟩
 case round =>
  clear H'
  try clear c2
  try clear p2
  try clear hcz5_0
  try clear hcz5_1
  try clear hcz5_2
  try clear hcz5_3
  try clear hfz5_0
  try clear hfz5_1
  try clear hfz5_2
  try clear hfz5_3
  obtain ⟨x8_1, x18_1, rfl, rfl, HA, HK1, BK490, HB⟩ := hrel
  cases gk with
  | zero => exact absurd HA.out (by simp [pipe_net_weak.l0])
  | succ k1 =>
   have H := HA.out
   clear HA
   simp only [pipe_net_weak.l0] at H
   by_cases c6 : x18_1 < (l2.length : Int)
   ·
    rw [if_pos c6] at H
    have c6b0 : decide (x18_1 < (l2.length : Int)) = true := decide_eq_true c6
    clear c6
    by_cases c7 : 0 ≤ x18_1
    ·
     rw [if_pos c7] at H
     have c7b0 : decide (0 ≤ x18_1) = true := decide_eq_true c7
     clear c7
     by_cases c8 : x18_1 < (l2.length : Int)
     ·
      rw [if_pos c8] at H
      have c8b0 : decide (x18_1 < (l2.length : Int)) = true := decide_eq_true c8
      clear c8
      replace H := Option.bind_eq_some_iff.mp H
      obtain ⟨⟨t492, t495, t496⟩, A90, H⟩ := H
      replace H : (if t496 = true then (pipe_net_weak.l0 k1 a1 (mn x8_1 t495) l2 (l2.length : Int) (wrap64 (x18_1 + 1)) l0_0 l0_1 l0_2 a0_3) else (some (x18_1, 0))) = some (r1, r2) := H
      have A9 := Aside0.mk A90
      clear A90
      by_cases c10 : t496 = true
      ·
       subst c10
       have H1 : (pipe_net_weak.l0 k1 a1 (mn x8_1 t495) l2 (l2.length : Int) (wrap64 (x18_1 + 1)) l0_0 l0_1 l0_2 a0_3) = some (r1, r2) := by rw [if_pos rfl] at H; exact H
       clear H
       have H := H1
       clear H1
       obtain ⟨ji11, hji11⟩ : ∃ j_ : Int, (mn x8_1 t495) = j_ := ⟨_, rfl⟩
       replace H : (pipe_net_weak.l0 k1 a1 ji11 l2 (l2.length : Int) (wrap64 (x18_1 + 1)) l0_0 l0_1 l0_2 a0_3) = some (r1, r2) := by first | (rw [hji11] at H; exact H) | (simp only [hji11] at H ⊢; exact H)
       (try rw [hji11] at A9)
       have hji11_ : (if t495 < x8_1 then t495 else x8_1) = ji11 := hji11
       have H' := Aside0.mk H
       clear H
       have p491 : 0 ≤ (x18_1 : Int) := of_decide_eq_true (by first | (with_reducible assumption) | assumption)
       have q491 : x18_1 < (l2.length : Int) := of_decide_eq_true (by first | (with_reducible assumption) | assumption)
       obtain ⟨ad491, e491, hx491_0⟩ := Kd.at_int HR2.out x18_1 p491 q491
       cases e491
       replace hx491_0 := (HB.out.cell (World.block_lt_of_cell? w _ hx491_0)).trans hx491_0
       replace p491 := eq_true p491
       replace q491 := eq_true q491
       have hcz12_0 : wr.cell? ⟨gb490, 0, none⟩ = some (.slice A0_0 l0_0.length c0_0) := (blk_cell BK490.out 0).trans rfl
       have hcz12_1 : wr.cell? ⟨gb490, 1, none⟩ = some (.slice A0_1 l0_1.length c0_1) := (blk_cell BK490.out 1).trans rfl
       have hcz12_2 : wr.cell? ⟨gb490, 2, none⟩ = some (.slice A0_2 l0_2.length c0_2) := (blk_cell BK490.out 2).trans rfl
       have hcz12_3 : wr.cell? ⟨gb490, 3, none⟩ = some (.int .i64 a0_3) := (blk_cell BK490.out 3).trans rfl
       have hfz12_0 := blk_frozen BK490.out 0
       have hfz12_1 := blk_frozen BK490.out 1
       have hfz12_2 := blk_frozen BK490.out 2
       have hfz12_3 := blk_frozen BK490.out 3
       go_wp2_with (first | ((with_reducible refine gate_callee (f := 64) rfl ?_); refine goesL_ (some 26) rfl rfl Try.func64 (by kernel_rfl) rfl #[.agg #[.slice A0_0 l0_0.length c0_0, .slice A0_1 l0_1.length c0_1, .slice A0_2 l0_2.length c0_2, .int .i64 a0_3], .int .i64 a1, .int .i64 (rd l2 x18_1)] rfl (by (try simp only [List.map_toArray, List.map_cons, List.map_nil]); first | done | rfl | (simp only [List.length_drop, List.length_take]; rfl)) ?_; (with_reducible refine (pipe_net_order.calls _ _ l0_0 _ _ l0_1 _ _ l0_2 a0_3 a1 (rd l2 x18_1) t492 t495 true _ ?side1 ?side2 ?side3 ?side4 ?side5 ?side6 A9.out).mono ?_); (case side1 => repeat (first | exact (Kd.C_below HR0_0.out HB.out) | (with_reducible refine Kd.C_alloc ?_ _) | (with_reducible refine Kd.C_drewN ?_ _) | (with_reducible refine Kd.C_drew ?_))); (case side2 => exact HC0_0.out); (case side3 => repeat (first | exact (Kd.C_below HR0_1.out HB.out) | (with_reducible refine Kd.C_alloc ?_ _) | (with_reducible refine Kd.C_drewN ?_ _) | (with_reducible refine Kd.C_drew ?_))); (case side4 => exact HC0_1.out); (case side5 => repeat (first | exact (Kd.C_below HR0_2.out HB.out) | (with_reducible refine Kd.C_alloc ?_ _) | (with_reducible refine Kd.C_drewN ?_ _) | (with_reducible refine Kd.C_drew ?_))); (case side6 => exact HC0_2.out); rintro e w13 ⟨v493, rfl, ho0, hb⟩; refine ⟨_, rfl, ?_⟩; have n0_ := Aside0.mk (Kd.R_lower ho0 (below_size (by repeat (first | (with_reducible first | exact HB.out | apply below_alloc | apply pw_below_drewN | apply below_drew1 | refine below_set ?_ GE490.out) | exact HB.out)))); have n1_ := Aside0.mk (blk_below (g := gb490) (o := .cells #[.slice A0_0 l0_0.length c0_0, .slice A0_1 l0_1.length c0_1, .slice A0_2 l0_2.length c0_2, .int .i64 a0_3] 99 (0, 0)) (by (with_reducible repeat (first | refine blk_drewN ?_ _ | refine blk_drew ?_ | refine blk_alloc ?_ _)); exact BK490.out) hb); have n2_ := Aside0.mk (below_step (by repeat (first | (with_reducible first | exact HB.out | apply below_alloc | apply pw_below_drewN | apply below_drew1 | refine below_set ?_ GE490.out) | exact HB.out)) hb); clear BK490; clear HB; have HO494 := n0_; have BK490 := n1_; have HB := n2_; clear n0_ n1_ n2_; (try clear hb); (try clear hb2); (try clear hk); (try clear hi); (try clear ho0)) | ((with_reducible refine gate_dst (N := 11) rfl ?_); refine box_event ?hg (N := 11) ?hd (cs := #[.slice none 0 0, .int .i64 0, .bool false]) (t := 97) ?hr ?_; (case hd => rfl); (case hg => rfl); (case hr => first | (go_simp; done) | (go_simp; rfl)); intro gb497 hg w14 hbox hb; have n0_ := Aside0.mk (Kd.R_below (by (with_reducible repeat (first | apply Kd.R_alloc | apply Kd.R_drewN | apply Kd.R_drew)); exact HO494.out) hb); have n1_ := Aside0.mk (blk_below (g := gb490) (o := .cells #[.slice A0_0 l0_0.length c0_0, .slice A0_1 l0_1.length c0_1, .slice A0_2 l0_2.length c0_2, .int .i64 a0_3] 99 (0, 0)) (by (with_reducible repeat (first | refine blk_drewN ?_ _ | refine blk_drew ?_ | refine blk_alloc ?_ _)); exact BK490.out) hb); have n2_ := Aside0.mk (below_step (by repeat (first | (with_reducible first | exact HB.out | apply below_alloc | apply pw_below_drewN | apply below_drew1 | refine below_set ?_ GE490.out) | exact HB.out)) hb); have n3_ := Aside0.mk (hbox); have n4_ := Aside0.mk ((by rw [hg]; exact (below_size (by repeat (first | (with_reducible first | exact HB.out | apply below_alloc | apply pw_below_drewN | apply below_drew1 | refine below_set ?_ GE490.out) | exact HB.out))) : w.heap.size ≤ gb497)); have n5_ := Aside0.mk ((by rw [hg]; exact (below_size (by repeat (first | (with_reducible first | exact HB.out | apply below_alloc | apply pw_below_drewN | apply below_drew1 | refine below_set ?_ GE490.out) | exact HB.out))) : w.heap.size ≤ gb497)); have n6_ := Aside0.mk ((by rw [hg]; exact Nat.ne_of_lt (blk_lt (g := gb490) (o := .cells #[.slice A0_0 l0_0.length c0_0, .slice A0_1 l0_1.length c0_1, .slice A0_2 l0_2.length c0_2, .int .i64 a0_3] 99 (0, 0)) (by (with_reducible repeat (first | refine blk_drewN ?_ _ | refine blk_drew ?_ | refine blk_alloc ?_ _)); exact BK490.out)) : gb490 ≠ gb497)); have n7_ := Aside0.mk ((by rw [hg]; exact Nat.ne_of_gt (blk_lt (g := gb490) (o := .cells #[.slice A0_0 l0_0.length c0_0, .slice A0_1 l0_1.length c0_1, .slice A0_2 l0_2.length c0_2, .int .i64 a0_3] 99 (0, 0)) (by (with_reducible repeat (first | refine blk_drewN ?_ _ | refine blk_drew ?_ | refine blk_alloc ?_ _)); exact BK490.out)) : gb497 ≠ gb490)); clear HO494; clear BK490; clear HB; have HO494 := n0_; have BK490 := n1_; have HB := n2_; have BK497 := n3_; have GW497 := n4_; have GE497 := n5_; have NB490_497 := n6_; have NB497_490 := n7_; clear n0_ n1_ n2_ n3_ n4_ n5_ n6_ n7_; clear hb hbox hg; obtain ⟨Ao15, co15, eo15⟩ := Kd.R_slice HO494.out; subst eo15; have hnb16 := NB497_490.out; have hnc16 := NB490_497.out; have hcz17_0 : w14.cell? ⟨gb497, 0, none⟩ = some (.slice none 0 0) := (blk_cell BK497.out 0).trans rfl; have hcz17_1 : w14.cell? ⟨gb497, 1, none⟩ = some (.int .i64 0) := (blk_cell BK497.out 1).trans rfl; have hcz17_2 : w14.cell? ⟨gb497, 2, none⟩ = some (.bool false) := (blk_cell BK497.out 2).trans rfl; have hfz17_0 := blk_frozen BK497.out 0; have hfz17_1 := blk_frozen BK497.out 1; have hfz17_2 := blk_frozen BK497.out 2))
       go_roundg k1
       case measure => have := HK1.out; omega
       case rel => exact ⟨(ji11), (wrap64 (x18_1 + 1)), (by first | rfl | (simp; done) | (simp only [← hji11] <;> (first | rfl | simp)) | (simp [*]; done)), (by first | rfl | (simp; done) | (simp [*]; done)), H', ⟨by have := HK1.out; omega⟩, ⟨by (with_reducible repeat (first | refine blk_drewN ?_ _ | refine blk_drew ?_ | refine blk_alloc ?_ _)); refine blk_far ?_ NB490_497.out _; (with_reducible repeat (first | refine blk_drewN ?_ _ | refine blk_drew ?_ | refine blk_alloc ?_ _)); refine blk_far ?_ NB490_497.out _; (with_reducible repeat (first | refine blk_drewN ?_ _ | refine blk_drew ?_ | refine blk_alloc ?_ _)); refine blk_far ?_ NB490_497.out _; (with_reducible repeat (first | refine blk_drewN ?_ _ | refine blk_drew ?_ | refine blk_alloc ?_ _)); exact BK490.out⟩, ⟨by repeat (first | (with_reducible first | exact HB.out | apply below_alloc | apply pw_below_drewN | apply below_drew1 | refine below_set ?_ GE490.out | refine below_set ?_ GE497.out) | exact HB.out)⟩⟩
      ·
       replace c10 := Bool.eq_false_iff.mpr c10
       subst c10
       have H1 : (some (x18_1, 0)) = some (r1, r2) := by rw [if_neg (show ¬ (false = true) by decide)] at H; exact H
       clear H
       have H := H1
       clear H1
       simp only [Option.some.injEq, Prod.mk.injEq] at H
       obtain ⟨rfl, rfl⟩ := H
       have p491 : 0 ≤ (x18_1 : Int) := of_decide_eq_true (by first | (with_reducible assumption) | assumption)
       have q491 : x18_1 < (l2.length : Int) := of_decide_eq_true (by first | (with_reducible assumption) | assumption)
       obtain ⟨ad491, e491, hx491_0⟩ := Kd.at_int HR2.out x18_1 p491 q491
       cases e491
       replace hx491_0 := (HB.out.cell (World.block_lt_of_cell? w _ hx491_0)).trans hx491_0
       replace p491 := eq_true p491
       replace q491 := eq_true q491
       have hcz18_0 : wr.cell? ⟨gb490, 0, none⟩ = some (.slice A0_0 l0_0.length c0_0) := (blk_cell BK490.out 0).trans rfl
       have hcz18_1 : wr.cell? ⟨gb490, 1, none⟩ = some (.slice A0_1 l0_1.length c0_1) := (blk_cell BK490.out 1).trans rfl
       have hcz18_2 : wr.cell? ⟨gb490, 2, none⟩ = some (.slice A0_2 l0_2.length c0_2) := (blk_cell BK490.out 2).trans rfl
       have hcz18_3 : wr.cell? ⟨gb490, 3, none⟩ = some (.int .i64 a0_3) := (blk_cell BK490.out 3).trans rfl
       have hfz18_0 := blk_frozen BK490.out 0
       have hfz18_1 := blk_frozen BK490.out 1
       have hfz18_2 := blk_frozen BK490.out 2
       have hfz18_3 := blk_frozen BK490.out 3
       go_wp2_with (first | ((with_reducible refine gate_callee (f := 64) rfl ?_); refine goesL_ (some 26) rfl rfl Try.func64 (by kernel_rfl) rfl #[.agg #[.slice A0_0 l0_0.length c0_0, .slice A0_1 l0_1.length c0_1, .slice A0_2 l0_2.length c0_2, .int .i64 a0_3], .int .i64 a1, .int .i64 (rd l2 x18_1)] rfl (by (try simp only [List.map_toArray, List.map_cons, List.map_nil]); first | done | rfl | (simp only [List.length_drop, List.length_take]; rfl)) ?_; (with_reducible refine (pipe_net_order.calls _ _ l0_0 _ _ l0_1 _ _ l0_2 a0_3 a1 (rd l2 x18_1) t492 t495 false _ ?side1 ?side2 ?side3 ?side4 ?side5 ?side6 A9.out).mono ?_); (case side1 => repeat (first | exact (Kd.C_below HR0_0.out HB.out) | (with_reducible refine Kd.C_alloc ?_ _) | (with_reducible refine Kd.C_drewN ?_ _) | (with_reducible refine Kd.C_drew ?_))); (case side2 => exact HC0_0.out); (case side3 => repeat (first | exact (Kd.C_below HR0_1.out HB.out) | (with_reducible refine Kd.C_alloc ?_ _) | (with_reducible refine Kd.C_drewN ?_ _) | (with_reducible refine Kd.C_drew ?_))); (case side4 => exact HC0_1.out); (case side5 => repeat (first | exact (Kd.C_below HR0_2.out HB.out) | (with_reducible refine Kd.C_alloc ?_ _) | (with_reducible refine Kd.C_drewN ?_ _) | (with_reducible refine Kd.C_drew ?_))); (case side6 => exact HC0_2.out); rintro e w19 ⟨v493, rfl, ho0, hb⟩; refine ⟨_, rfl, ?_⟩; have n0_ := Aside0.mk (Kd.R_lower ho0 (below_size (by repeat (first | (with_reducible first | exact HB.out | apply below_alloc | apply pw_below_drewN | apply below_drew1 | refine below_set ?_ GE490.out) | exact HB.out)))); have n1_ := Aside0.mk (blk_below (g := gb490) (o := .cells #[.slice A0_0 l0_0.length c0_0, .slice A0_1 l0_1.length c0_1, .slice A0_2 l0_2.length c0_2, .int .i64 a0_3] 99 (0, 0)) (by (with_reducible repeat (first | refine blk_drewN ?_ _ | refine blk_drew ?_ | refine blk_alloc ?_ _)); exact BK490.out) hb); have n2_ := Aside0.mk (below_step (by repeat (first | (with_reducible first | exact HB.out | apply below_alloc | apply pw_below_drewN | apply below_drew1 | refine below_set ?_ GE490.out) | exact HB.out)) hb); clear BK490; clear HB; have HO494 := n0_; have BK490 := n1_; have HB := n2_; clear n0_ n1_ n2_; (try clear hb); (try clear hb2); (try clear hk); (try clear hi); (try clear ho0)) | ((with_reducible refine gate_dst (N := 11) rfl ?_); refine box_event ?hg (N := 11) ?hd (cs := #[.slice none 0 0, .int .i64 0, .bool false]) (t := 97) ?hr ?_; (case hd => rfl); (case hg => rfl); (case hr => first | (go_simp; done) | (go_simp; rfl)); intro gb497 hg w20 hbox hb; have n0_ := Aside0.mk (Kd.R_below (by (with_reducible repeat (first | apply Kd.R_alloc | apply Kd.R_drewN | apply Kd.R_drew)); exact HO494.out) hb); have n1_ := Aside0.mk (blk_below (g := gb490) (o := .cells #[.slice A0_0 l0_0.length c0_0, .slice A0_1 l0_1.length c0_1, .slice A0_2 l0_2.length c0_2, .int .i64 a0_3] 99 (0, 0)) (by (with_reducible repeat (first | refine blk_drewN ?_ _ | refine blk_drew ?_ | refine blk_alloc ?_ _)); exact BK490.out) hb); have n2_ := Aside0.mk (below_step (by repeat (first | (with_reducible first | exact HB.out | apply below_alloc | apply pw_below_drewN | apply below_drew1 | refine below_set ?_ GE490.out) | exact HB.out)) hb); have n3_ := Aside0.mk (hbox); have n4_ := Aside0.mk ((by rw [hg]; exact (below_size (by repeat (first | (with_reducible first | exact HB.out | apply below_alloc | apply pw_below_drewN | apply below_drew1 | refine below_set ?_ GE490.out) | exact HB.out))) : w.heap.size ≤ gb497)); have n5_ := Aside0.mk ((by rw [hg]; exact (below_size (by repeat (first | (with_reducible first | exact HB.out | apply below_alloc | apply pw_below_drewN | apply below_drew1 | refine below_set ?_ GE490.out) | exact HB.out))) : w.heap.size ≤ gb497)); have n6_ := Aside0.mk ((by rw [hg]; exact Nat.ne_of_lt (blk_lt (g := gb490) (o := .cells #[.slice A0_0 l0_0.length c0_0, .slice A0_1 l0_1.length c0_1, .slice A0_2 l0_2.length c0_2, .int .i64 a0_3] 99 (0, 0)) (by (with_reducible repeat (first | refine blk_drewN ?_ _ | refine blk_drew ?_ | refine blk_alloc ?_ _)); exact BK490.out)) : gb490 ≠ gb497)); have n7_ := Aside0.mk ((by rw [hg]; exact Nat.ne_of_gt (blk_lt (g := gb490) (o := .cells #[.slice A0_0 l0_0.length c0_0, .slice A0_1 l0_1.length c0_1, .slice A0_2 l0_2.length c0_2, .int .i64 a0_3] 99 (0, 0)) (by (with_reducible repeat (first | refine blk_drewN ?_ _ | refine blk_drew ?_ | refine blk_alloc ?_ _)); exact BK490.out)) : gb497 ≠ gb490)); clear HO494; clear BK490; clear HB; have HO494 := n0_; have BK490 := n1_; have HB := n2_; have BK497 := n3_; have GW497 := n4_; have GE497 := n5_; have NB490_497 := n6_; have NB497_490 := n7_; clear n0_ n1_ n2_ n3_ n4_ n5_ n6_ n7_; clear hb hbox hg; obtain ⟨Ao21, co21, eo21⟩ := Kd.R_slice HO494.out; subst eo21; have hnb22 := NB497_490.out; have hnc22 := NB490_497.out; have hcz23_0 : w20.cell? ⟨gb497, 0, none⟩ = some (.slice none 0 0) := (blk_cell BK497.out 0).trans rfl; have hcz23_1 : w20.cell? ⟨gb497, 1, none⟩ = some (.int .i64 0) := (blk_cell BK497.out 1).trans rfl; have hcz23_2 : w20.cell? ⟨gb497, 2, none⟩ = some (.bool false) := (blk_cell BK497.out 2).trans rfl; have hfz23_0 := blk_frozen BK497.out 0; have hfz23_1 := blk_frozen BK497.out 1; have hfz23_2 := blk_frozen BK497.out 2))
       go_ret2
       exact ⟨by first | rfl | (simp [errW_none, errW_some] <;> rfl) | (simp [*, errW_none, errW_some] <;> rfl), by repeat (first | (with_reducible first | exact HB.out | apply below_alloc | apply pw_below_drewN | apply below_drew1 | refine below_set ?_ GE490.out | refine below_set ?_ GE497.out) | exact HB.out)⟩
     ·
      rw [if_neg c8] at H
      exact absurd H (by simp)
    ·
     rw [if_neg c7] at H
     exact absurd H (by simp)
   ·
    rw [if_neg c6] at H
    have c6b0 : decide (x18_1 < (l2.length : Int)) = false := decide_eq_false c6
    clear c6
    simp only [Option.some.injEq, Prod.mk.injEq] at H
    obtain ⟨rfl, rfl⟩ := H
    go_wp2
    go_ret2
    exact ⟨by first | rfl | (simp [errW_none, errW_some] <;> rfl) | (simp [*, errW_none, errW_some] <;> rfl), by repeat (first | (with_reducible first | exact HB.out | apply below_alloc | apply pw_below_drewN | apply below_drew1 | refine below_set ?_ GE490.out) | exact HB.out)⟩
end Go.Proofs.Ytipphcjgdebecaa.PA
namespace Go.Proofs.Ytipphcjgdebecaa.PA
open Go.RowKit Go.Proofs.YtipphcjgdebecaaW.PrintWords Go.Proofs.YtipphcjgdebecaaW.PrintLast Go.Proofs.YtipphcjgdebecaaW.PrintMore
attribute [local go_sem] max2_int min2_int max_two min_two max_three min_three max_four min_four
set_option linter.unusedVariables false
set_option linter.unusedSimpArgs false
theorem weak_some (l0 : List S39) (l1 : List S37) (l2 : List (List Int)) (wp from_ : Int) (fs : List Int) (ho : ∀ f ∈ fs, ∃ r, pipe_net_order.f l0 l1 l2 wp from_ f = some r) :
  ∀ (k j : Nat) (s : Int), fs.length - j < k → j ≤ fs.length → fs.length ≤ 1000 → ∃ r, pipe_net_weak.l0 k from_ s fs (fs.length : Int) (j : Int) l0 l1 l2 wp = some r := by
 intro k
 induction k with
 | zero => intro j s h; omega
 | succ k ih =>
  intro j s h hj hn
  unfold pipe_net_weak.l0
  by_cases hlt : j < fs.length
  ·
   rw [if_pos (by omega), if_pos (by omega), if_pos (by omega)]
   obtain ⟨r, hr⟩ := ho (rd fs j) (by unfold rd; simp [hlt])
   rw [hr]
   simp only [Option.bind_some]
   split
   ·
    have hw : wrap64 ((j : Int) + 1) = ((j + 1 : Nat) : Int) := by unfold wrap64; omega
    rw [hw]
    exact ih (j + 1) _ (by omega) (by omega) hn
   ·
    exact ⟨_, rfl⟩
  ·
   rw [if_neg (by omega)]
   exact ⟨_, rfl⟩
def weakV (l0 : List S39) (l1 : List S37) (l2 : List (List Int)) (wp from_ : Int) (fs : List Int) : Int × Int := (pipe_net_weak.f 14 l0 l1 l2 wp from_ fs).getD (0, 0)
theorem weakV_some (l0 : List S39) (l1 : List S37) (l2 : List (List Int)) (wp from_ : Int) (fs : List Int) (hl : fs.length ≤ 12) (ho : ∀ f ∈ fs, ∃ r, pipe_net_order.f l0 l1 l2 wp from_ f = some r) :
  pipe_net_weak.f 14 l0 l1 l2 wp from_ fs = some ((weakV l0 l1 l2 wp from_ fs).1, (weakV l0 l1 l2 wp from_ fs).2) := by
 obtain ⟨r, hr⟩ := weak_some l0 l1 l2 wp from_ fs ho 14 0 (l1.length : Int) (by omega) (by omega) (by omega)
 have h : pipe_net_weak.f 14 l0 l1 l2 wp from_ fs = some r := hr
 unfold weakV
 rw [h]
 rfl
theorem shl_pow (n : Nat) (h : n ≤ 5) : shl .i64 1 (n : Int) = 2 ^ n := by
 match n, h with
 | 0, _ => rfl
 | 1, _ => rfl
 | 2, _ => rfl
 | 3, _ => rfl
 | 4, _ => rfl
 | 5, _ => rfl
theorem given_ok {l0 : List S39} {l1 : List S37} {l2 : List (List Int)} {a1 : Int} {fs : List Int} (h : givenV l0 l1 l2 a1 fs = 0) : fs.length ≤ 12 ∧ validB l0 l1 l2 = true ∧ 0 ≤ a1 ∧ a1 ≤ l0.length ∧ ∀ f ∈ fs, 0 ≤ f ∧ f < 2 ^ l0.length := by
 unfold givenV at h
 split at h
 ·
  cases h
 ·
  rename_i hl
  split at h
  ·
   cases h
  ·
   rename_i hc
   simp only [Bool.or_eq_true, Bool.not_eq_true', not_or, Bool.not_eq_false] at hc
   obtain ⟨hv, hp, ha⟩ := hc
   have hlen := valid_lens hv
   unfold inB at hp
   simp only [Bool.and_eq_true, decide_eq_true_eq] at hp
   refine ⟨by omega, hv, hp.1, hp.2, fun f hf => ?_⟩
   rw [Bool.not_eq_true, List.any_eq_false] at ha
   have h1 := ha f hf
   simp only [Bool.not_eq_true', Bool.not_eq_false] at h1
   unfold faultB inB at h1
   simp only [Bool.and_eq_true, decide_eq_true_eq] at h1
   rw [shl_pow _ hlen.2.2.1] at h1
   have h32 : (2 : Int) ^ l0.length ≤ 32 := by
    have h := Nat.pow_le_pow_right (n := 2) (by decide) hlen.2.2.1
    have : ((2 ^ l0.length : Nat) : Int) ≤ ((2 ^ 5 : Nat) : Int) := Int.ofNat_le.2 h
    simpa using this
   have h0 : (0 : Int) < 2 ^ l0.length := Int.pow_pos (by decide)
   unfold wrap64 at h1
   exact ⟨h1.1, by omega⟩
theorem order_some {l0 : List S39} {l1 : List S37} {l2 : List (List Int)} {wp a1 f : Int} (hv : validB l0 l1 l2 = true) (hw : 0 ≤ wp) (h0 : 0 ≤ a1) (h1 : a1 ≤ l0.length) (f0 : 0 ≤ f) (f1 : f < 2 ^ l0.length) : ∃ r, pipe_net_order.f l0 l1 l2 wp a1 f = some r := by
 unfold pipe_net_order.f
 rw [if_pos ⟨hv, hw, h0, h1, f0, f1⟩]
 exact ⟨_, rfl⟩
structure Inv73 (w0 : World) (gn gf : Nat) (cn cf : Value) (cs : Array Value) (A : Nat → Prop) (W : World) : Prop where
 an : ¬ A gn
 af : ¬ A gf
 lo : ∀ k, A k → w0.heap.size ≤ k
 xn : W.heap[gn]? = some (.cells cs 26 (0, 0))
 xf : W.heap[gf]? = some (.cells #[cf] 47 (0, 0))
 hb : Below w0.heap.size w0 W
theorem Inv73.held {w0 : World} {gn gf : Nat} {cn cf : Value} {cs : Array Value} {B : Nat} (hB : w0.heap.size ≤ B) : Held B (Inv73 w0 gn gf cn cf cs) where
 mono A A' W hA h := ⟨fun hk => h.an (hA _ hk), fun hk => h.af (hA _ hk), fun k hk => h.lo k (hA k hk), h.xn, h.xf, h.hb⟩
 fresh A W h := ⟨fun hk => hk.elim h.an (fun e => by have := blk_lt h.xn; omega), fun hk => hk.elim h.af (fun e => by have := blk_lt h.xf; omega), fun k hk => hk.elim (h.lo k) (fun e => Nat.le_trans h.hb.size e), h.xn, h.xf, h.hb⟩
 step A W W' h hk := ⟨h.an, h.af, h.lo, hk.blk h.xn h.an, hk.blk h.xf h.af, ⟨hk.os.trans h.hb.os, hk.tape.trans h.hb.tape, hk.output.trans h.hb.output, Nat.le_trans h.hb.size hk.size, fun k hlt => (hk.block k (Nat.lt_of_lt_of_le hlt h.hb.size) (fun ha => by have := h.lo k ha; omega)).trans (h.hb.block k hlt)⟩⟩
 own A W W' row h hg hr := ⟨h.an, h.af, h.lo, blk_own h.xn hg hr, blk_own h.xf hg hr, ⟨hg.os.trans h.hb.os, hg.tape.trans h.hb.tape, hg.output.trans h.hb.output, Nat.le_trans h.hb.size hg.size, fun k hlt => (hg.block k (Nat.lt_of_lt_of_le hlt h.hb.size) (fun e => by have := (hr k e.symm).1; omega)).trans (h.hb.block k hlt)⟩⟩
def ofPost (l0 : List S39) (l1 : List S37) (l2 : List (List Int)) (fs : List Int) (p : Int) : Int × Bool := ((weakV l0 l1 l2 0 p fs).2, decide ((weakV l0 l1 l2 0 p fs).1 < 0))
set_option maxRecDepth 100000 in
set_option maxHeartbeats 4000000 in
theorem of73_calls (A0 : Option Addr) (c0 : Nat) (l0 : List S39) (A1 : Option Addr) (c1 : Nat) (l1 : List S37) (A2 : Option Addr) (c2 : Nat) (l2 : List (List Int)) (A3 : Option Addr) (c3 : Nat) (fs : List Int) (w0 : World) (gn gf : Nat) (cn : Value)
  (hr0 : Kd.C k39 w0 A0 l0.length l0) (hc0 : l0.length ≤ c0) (hr1 : Kd.C k37 w0 A1 l1.length l1) (hc1 : l1.length ≤ c1) (hr2 : Kd.C (Kd.slice 3 (Kd.int .i64)) w0 A2 l2.length l2) (hc2 : l2.length ≤ c2) (hr3 : Kd.C (Kd.int .i64) w0 A3 fs.length fs) (hc3 : fs.length ≤ c3)
  (x : Int) (hok : pipe_net_weak.f 14 l0 l1 l2 0 x fs = some ((weakV l0 l1 l2 0 x fs).1, (weakV l0 l1 l2 0 x fs).2)) (A : Nat → Prop) (w : World) (hinv : Inv73 w0 gn gf cn (.slice A3 fs.length c3) #[.slice A0 l0.length c0, .slice A1 l1.length c1, .slice A2 l2.length c2] A w) :
  Calls Try.prog 73 #[.int .i64 x, .pointer (some ⟨gn, 0, none⟩), .pointer (some ⟨gf, 0, none⟩)] w fun e w' => e = .returned (.tuple #[.int .i64 (ofPost l0 l1 l2 fs x).1, .bool (ofPost l0 l1 l2 fs x).2]) ∧ Inv73 w0 gn gf cn (.slice A3 fs.length c3) #[.slice A0 l0.length c0, .slice A1 l1.length c1, .slice A2 l2.length c2] A w' ∧ KB (fun _ => False) w w' := by
 have hu26 := Try.underlying26
 have hu99 := Try.underlying99
 have H := Aside0.mk (pipe_net_weak.calls 14 _ _ l0 _ _ l1 _ _ l2 0 x _ _ fs _ _ w (Kd.C_below hr0 hinv.hb) hc0 (Kd.C_below hr1 hinv.hb) hc1 (Kd.C_below hr2 hinv.hb) hc2 (Kd.C_below hr3 hinv.hb) hc3 hok)
 have k0 : w.cell? ⟨gn, 0, none⟩ = some (.slice A0 l0.length c0) := blk_cell hinv.xn 0
 have k1 : w.cell? ⟨gn, 1, none⟩ = some (.slice A1 l1.length c1) := blk_cell hinv.xn 1
 have k2 : w.cell? ⟨gn, 2, none⟩ = some (.slice A2 l2.length c2) := blk_cell hinv.xn 2
 have k3 : w.cell? ⟨gf, 0, none⟩ = some (.slice A3 fs.length c3) := blk_cell hinv.xf 0
 have HI := Aside0.mk hinv
 unfold ofPost
 clear hr0 hc0 hr1 hc1 hr2 hc2 hr3 hc3 hok hinv
 generalize weakV l0 l1 l2 0 x fs = ws at H ⊢
 obtain ⟨i, sl⟩ := ws
 try dsimp only at H ⊢
 go_enter Try.func73, Try.ntmps73
 go_wp2_with (go_at_call 74; refine H.out.mono ?_; rintro e w2 ⟨rfl, hb⟩; have HB := Aside0.mk hb; clear hb)
 go_ret2
 exact ⟨rfl, (Inv73.held (Nat.le_refl _)).step A w _ HI.out (KB.of_below HB.out A), KB.of_below HB.out _⟩
def postV (l0 : List S39) (l1 : List S37) (l2 : List (List Int)) (fs : List Int) : Int × Int × Int :=
 if givenV l0 l1 l2 0 fs ≠ 0 then (0, 0, givenV l0 l1 l2 0 fs) else
  if (g1 (ofPost l0 l1 l2 fs) (numsOf (l0.length + 1))).2.2 = true then ((g1 (ofPost l0 l1 l2 fs) (numsOf (l0.length + 1))).1, (g1 (ofPost l0 l1 l2 fs) (numsOf (l0.length + 1))).2.1, 0) else (0, 0, 5)
def pipe_Post.f (l0_0 : List (S39)) (l0_1 : List (S37)) (l0_2 : List (List Int)) (l1 : List Int) : Option (Int × Int × Int) := some (postV l0_0 l0_1 l0_2 l1)
set_option maxHeartbeats 4000000 in
set_option maxRecDepth 100000 in
theorem pipe_Post.calls (A0_0 : Option Addr) (c0_0 : Nat) (l0_0 : List (S39)) (A0_1 : Option Addr) (c0_1 : Nat) (l0_1 : List (S37)) (A0_2 : Option Addr) (c0_2 : Nat) (l0_2 : List (List Int)) (A1 : Option Addr) (c1 : Nat) (l1 : List Int) (r1 : Int) (r2 : Int) (r3 : Int) (w : World) (hr0_0 : Kd.C k39 w A0_0 l0_0.length l0_0) (hc0_0 : l0_0.length ≤ c0_0) (hr0_1 : Kd.C k37 w A0_1 l0_1.length l0_1) (hc0_1 : l0_1.length ≤ c0_1) (hr0_2 : Kd.C (Kd.slice 3 (Kd.int .i64)) w A0_2 l0_2.length l0_2) (hc0_2 : l0_2.length ≤ c0_2) (hr1 : Kd.C (Kd.int .i64) w A1 l1.length l1) (hc1 : l1.length ≤ c1) (h : pipe_Post.f l0_0 l0_1 l0_2 l1 = some (r1, r2, r3)) :
  Calls Try.prog 37 #[.agg #[.slice A0_0 l0_0.length c0_0, .slice A0_1 l0_1.length c0_1, .slice A0_2 l0_2.length c0_2], .slice A1 l1.length c1] w fun e w' => e = .returned (.tuple #[.int .i64 r1, .int .i64 r2, .int .i64 r3]) ∧ Below w.heap.size w w' := by
 have h' := Option.some.inj h
 clear h
 have HF := Aside0.mk h'
 clear h'
 have hu26 := Try.underlying26
 have HB := Aside0.mk (Below.refl w.heap.size w)
 have HR0 := Aside0.mk hr0_0
 have HR1 := Aside0.mk hr0_1
 have HR2 := Aside0.mk hr0_2
 have HR3 := Aside0.mk hr1
 clear hr0_0 hr0_1 hr0_2 hr1
 have hmf : ∀ (fn : Fn) (first cap : Array Value) (w : World), (Instr.makeFunc fn first cap).run Try.prog w = .ok (.func fn first cap) w := fun _ _ _ _ => rfl
 have hgiven : ∀ W, Below w.heap.size w W → Calls Try.prog 70 #[.agg #[.slice A0_0 l0_0.length c0_0, .slice A0_1 l0_1.length c0_1, .slice A0_2 l0_2.length c0_2], .int .i64 0, .slice A1 l1.length c1] W fun e w' => e = .returned (.int .i64 (givenV l0_0 l0_1 l0_2 0 l1)) ∧ Below W.heap.size W w' := fun W hW =>
  pipe_given.calls _ _ _ _ _ _ _ _ _ 0 _ _ l1 _ W (Kd.C_below HR0.out hW) hc0_0 (Kd.C_below HR1.out hW) hc0_1 (Kd.C_below HR2.out hW) hc0_2 (Kd.C_below HR3.out hW) hc1 rfl
 have HGIV := Aside0.mk hgiven
 clear hgiven
 obtain ⟨gv, hgv⟩ : ∃ gv, gv = givenV l0_0 l0_1 l0_2 0 l1 := ⟨_, rfl⟩
 rw [← hgv] at HGIV
 by_cases hz : gv = 0
 ·
  have hgo := given_ok (hgv.symm.trans hz)
  have hlen := valid_lens hgo.2.1
  have hweak : ∀ x, x ∈ numsOf (l0_0.length + 1) → pipe_net_weak.f 14 l0_0 l0_1 l0_2 0 x l1 = some ((weakV l0_0 l0_1 l0_2 0 x l1).1, (weakV l0_0 l0_1 l0_2 0 x l1).2) := fun x hx => by
   unfold numsOf at hx
   simp only [List.mem_map, List.mem_range] at hx
   obtain ⟨k, hk, rfl⟩ := hx
   exact weakV_some _ _ _ _ _ _ hgo.1 (fun f hf => order_some hgo.2.1 (by omega) (by omega) (by omega) (hgo.2.2.2.2 f hf).1 (hgo.2.2.2.2 f hf).2)
  have HW := Aside0.mk hweak
  have HLN : Aside0 (l0_0.length ≤ 5) := ⟨hlen.2.2.1⟩
  have hPV : postV l0_0 l0_1 l0_2 l1 = (if (g1 (ofPost l0_0 l0_1 l0_2 l1) (numsOf (l0_0.length + 1))).2.2 = true then ((g1 (ofPost l0_0 l0_1 l0_2 l1) (numsOf (l0_0.length + 1))).1, (g1 (ofPost l0_0 l0_1 l0_2 l1) (numsOf (l0_0.length + 1))).2.1, 0) else (0, 0, 5)) := by
   unfold postV
   rw [if_neg (by rw [← hgv]; simp [hz])]
  have HPV := Aside0.mk (hPV.symm.trans HF.out)
  clear hPV hweak hlen hgo hgv
  subst hz
  have hw1 : IntKind.i64.wrap ((l0_0.length : Int) + 1) = (l0_0.length : Int) + 1 := by rw [i64_w]; unfold wrap64; have := HLN.out; omega
  go_enter Try.func37, Try.ntmps37
  go_wp2_with (first | ((with_reducible refine gate_dst (N := 2) rfl ?_); refine box_event ?hg (N := 2) ?hd (cs := #[.slice A0_0 l0_0.length c0_0, .slice A0_1 l0_1.length c0_1, .slice A0_2 l0_2.length c0_2]) (t := 26) ?hr ?_; (case hd => rfl); (case hg => rfl); (case hr => first | (go_simp; done) | (go_simp; rfl)); intro gb hg_gb w2 hbox hb; have BKgb := Aside0.mk hbox; have n_HB := Aside0.mk (below_step HB.out hb); have GEgb : w.heap.size ≤ gb := (by rw [hg_gb]; exact HB.out.size); clear HB; have HB := n_HB; clear n_HB; clear hbox hb hg_gb) | ((with_reducible refine gate_dst (N := 3) rfl ?_); refine box_event ?hg (N := 3) ?hd (cs := #[.slice A1 l1.length c1]) (t := 47) ?hr ?_; (case hd => rfl); (case hg => rfl); (case hr => first | (go_simp; done) | (go_simp; rfl)); intro gf hg_gf w3 hbox hb; have BKgf := Aside0.mk hbox; have n_BKgb := Aside0.mk (blk_below BKgb.out hb); clear BKgb; have BKgb := n_BKgb; clear n_BKgb; have n_HB := Aside0.mk (below_step HB.out hb); have GEgf : w.heap.size ≤ gf := (by rw [hg_gf]; exact HB.out.size); clear HB; have HB := n_HB; clear n_HB; clear hbox hb hg_gf; have hfgb := blk_frozen BKgb.out; have hcgb_0 : w3.cell? ⟨gb, 0, none⟩ = some (.slice A0_0 l0_0.length c0_0) := (blk_cell BKgb.out 0).trans rfl; have hcgb_1 : w3.cell? ⟨gb, 1, none⟩ = some (.slice A0_1 l0_1.length c0_1) := (blk_cell BKgb.out 1).trans rfl; have hcgb_2 : w3.cell? ⟨gb, 2, none⟩ = some (.slice A0_2 l0_2.length c0_2) := (blk_cell BKgb.out 2).trans rfl; have hfgf := blk_frozen BKgf.out; have hcgf_0 : w3.cell? ⟨gf, 0, none⟩ = some (.slice A1 l1.length c1) := (blk_cell BKgf.out 0).trans rfl) | (go_at_call 70; refine (HGIV.out _ HB.out).mono ?_; rintro e w4 ⟨rfl, hb⟩; have n_BKgb := Aside0.mk (blk_below BKgb.out hb); clear BKgb; have BKgb := n_BKgb; clear n_BKgb; have n_BKgf := Aside0.mk (blk_below BKgf.out hb); clear BKgf; have BKgf := n_BKgf; clear n_BKgf; have n_HB := Aside0.mk (below_step HB.out hb); clear HB; have HB := n_HB; clear n_HB; clear hb; have hfgb := blk_frozen BKgb.out; have hcgb_0 : w4.cell? ⟨gb, 0, none⟩ = some (.slice A0_0 l0_0.length c0_0) := (blk_cell BKgb.out 0).trans rfl; have hcgb_1 : w4.cell? ⟨gb, 1, none⟩ = some (.slice A0_1 l0_1.length c0_1) := (blk_cell BKgb.out 1).trans rfl; have hcgb_2 : w4.cell? ⟨gb, 2, none⟩ = some (.slice A0_2 l0_2.length c0_2) := (blk_cell BKgb.out 2).trans rfl) | (go_at_call 72; refine (numbers_calls _ _).mono ?_; rintro e w5 ⟨BB, rfl, hBB, hge, hb⟩; have n_BKgb := Aside0.mk (blk_below BKgb.out hb); clear BKgb; have BKgb := n_BKgb; clear n_BKgb; have n_BKgf := Aside0.mk (blk_below BKgf.out hb); clear BKgf; have BKgf := n_BKgf; clear n_BKgf; have n_HB := Aside0.mk (below_step HB.out hb); clear HB; have HB := n_HB; clear n_HB; clear hb))
  have hcall := greatest73_calls (p := fun x => x ∈ numsOf (l0_0.length + 1)) (gf := 96) (lb := #[.pointer (some ⟨BB, 0, none⟩)]) (enters_of Try.func96 (by kernel_rfl) rfl) (Bn := BB) (w := w5) (blk_lt hBB) (fun n hn => numbers_stops n hn (l0_0.length + 1) (by have := HLN.out; omega) BB w5 hBB) (numsOf (l0_0.length + 1)) (fun xs h => h)
   (Inv73.held (w0 := w) (gn := gb) (gf := gf) (cn := .nilIface) (cf := .slice A1 l1.length c1) (cs := #[.slice A0_0 l0_0.length c0_0, .slice A0_1 l0_1.length c0_1, .slice A0_2 l0_2.length c0_2]) (B := w5.heap.size) HB.out.size) (fun _ => False) (fun k hk => hk.elim)
   (fun _ => False) (.pointer (some ⟨gb, 0, none⟩)) (.pointer (some ⟨gf, 0, none⟩)) (ofPost l0_0 l0_1 l0_2 l1)
   (fun A' W' x hx hA' hi' => of73_calls _ _ l0_0 _ _ l0_1 _ _ l0_2 _ _ l1 w gb gf .nilIface HR0.out hc0_0 HR1.out hc0_1 HR2.out hc0_2 HR3.out hc1 x (HW.out x hx) A' W' hi')
   ⟨fun h => h, fun h => h, fun k h => h.elim, BKgb.out, BKgf.out, HB.out⟩ (fun k hk => hk.elim)
  refine hcall.mono ?_
  rintro e w7 ⟨rfl, i7, k7⟩
  have hb7 := HB.out.trans (k7.toBelow (fun k h => h.elim) |>.mono HB.out.size)
  clear hcall i7 k7 hBB hge
  generalize g1 (ofPost l0_0 l0_1 l0_2 l1) (numsOf (l0_0.length + 1)) = g at HPV ⊢
  obtain ⟨ga, gc, gd⟩ := g
  try dsimp only at HPV ⊢
  have HB7 := Aside0.mk hb7
  clear hb7
  cases gd with
  | false =>
   have he := HPV.out
   cases he
   go_wp2_with fail
   go_ret3
   exact ⟨rfl, HB7.out⟩
  | true =>
   have he := HPV.out
   cases he
   go_wp2_with fail
   go_ret3
   exact ⟨rfl, HB7.out⟩
 ·
  have hzb : (gv != 0) = true := by simp [hz]
  have hv : (r1, r2, r3) = (0, 0, gv) := by rw [← HF.out]; unfold postV; rw [← hgv, if_pos hz]
  cases hv
  clear hgv
  go_enter Try.func37, Try.ntmps37
  go_wp2_with (first | ((with_reducible refine gate_dst (N := 2) rfl ?_); refine box_event ?hg (N := 2) ?hd (cs := #[.slice A0_0 l0_0.length c0_0, .slice A0_1 l0_1.length c0_1, .slice A0_2 l0_2.length c0_2]) (t := 26) ?hr ?_; (case hd => rfl); (case hg => rfl); (case hr => first | (go_simp; done) | (go_simp; rfl)); intro gb hg_gb w2 hbox hb; have BKgb := Aside0.mk hbox; have n_HB := Aside0.mk (below_step HB.out hb); have GEgb : w.heap.size ≤ gb := (by rw [hg_gb]; exact HB.out.size); clear HB; have HB := n_HB; clear n_HB; clear hbox hb hg_gb) | ((with_reducible refine gate_dst (N := 3) rfl ?_); refine box_event ?hg (N := 3) ?hd (cs := #[.slice A1 l1.length c1]) (t := 47) ?hr ?_; (case hd => rfl); (case hg => rfl); (case hr => first | (go_simp; done) | (go_simp; rfl)); intro gf hg_gf w3 hbox hb; have BKgf := Aside0.mk hbox; have n_BKgb := Aside0.mk (blk_below BKgb.out hb); clear BKgb; have BKgb := n_BKgb; clear n_BKgb; have n_HB := Aside0.mk (below_step HB.out hb); have GEgf : w.heap.size ≤ gf := (by rw [hg_gf]; exact HB.out.size); clear HB; have HB := n_HB; clear n_HB; clear hbox hb hg_gf; have hfgb := blk_frozen BKgb.out; have hcgb_0 : w3.cell? ⟨gb, 0, none⟩ = some (.slice A0_0 l0_0.length c0_0) := (blk_cell BKgb.out 0).trans rfl; have hcgb_1 : w3.cell? ⟨gb, 1, none⟩ = some (.slice A0_1 l0_1.length c0_1) := (blk_cell BKgb.out 1).trans rfl; have hcgb_2 : w3.cell? ⟨gb, 2, none⟩ = some (.slice A0_2 l0_2.length c0_2) := (blk_cell BKgb.out 2).trans rfl; have hfgf := blk_frozen BKgf.out; have hcgf_0 : w3.cell? ⟨gf, 0, none⟩ = some (.slice A1 l1.length c1) := (blk_cell BKgf.out 0).trans rfl) | (go_at_call 70; refine (HGIV.out _ HB.out).mono ?_; rintro e w4 ⟨rfl, hb⟩; have n_HB := Aside0.mk (below_step HB.out hb); clear HB; have HB := n_HB; clear n_HB; clear hb))
  go_ret3
  exact ⟨rfl, HB.out⟩
end Go.Proofs.Ytipphcjgdebecaa.PA
