/- What functions of the program answer. No condition. -/
import Derived.Test.YtipphcjgdebecaaSC
import Derived.Test.YtipphcjgdebecaaSD
import Derived.Test.YtipphcjgdebecaaSF
import Derived.Test.YtipphcjgdebecaaPtA
import Derived.RangeFuncNested
import Derived.RangeFuncBound
import Derived.RangeFuncCalls
import Derived.RangeFuncLeaves
import Derived.RangeFuncBox
import Derived.Shelf.Abstract
import Derived.Shelf.RegionOpen
import Derived.OwnWalkIn
import Derived.TacticsInMore
import Derived.LoopNIn
import Derived.LoopIn
import Derived.Recover
import Derived.Defers
import Derived.WalkLawsBesides
import Derived.WalkSmall
import Derived.Test.YtipphcjgdebecaaSJ
import Derived.Test.YtipphcjgdebecaaSK
import Derived.Test.YtipphcjgdebecaaSL
import Derived.Test.YtipphcjgdebecaaSE
import Derived.Test.YtipphcjgdebecaaSH
import Derived.Test.YtipphcjgdebecaaSG
set_option linter.all false
set_option maxRecDepth 100000
set_option maxHeartbeats 8000000
namespace Go.Proofs.Ytipphcjgdebecaa.PA
open Go.RowKit Go.Proofs.YtipphcjgdebecaaW.PrintWords Go.Proofs.YtipphcjgdebecaaW.PrintLast Go.Proofs.YtipphcjgdebecaaW.PrintMore
attribute [local go_sem] qaw qay max_two min_two qas qat qax qaz
theorem short_end (l0 : List S39) (l1 : List S37) (l2 : List (List Int)) (i : Int) (k : Nat) : taliklaw04_short.j1 (k + 1) i false l0 l1 l2 = some (decide (l0.length ≤ 8) && (decide (l1.length ≤ 77) && decide (l2.length ≤ 10))) := by
 unfold taliklaw04_short.j1
 rw [if_neg (by decide)]
 by_cases h0 : l0.length ≤ 8
 ·
  rw [if_pos (by omega)]
  by_cases h1 : l1.length ≤ 77
  ·
   rw [if_pos (by omega)]
   simp [h0, h1]
   omega
  ·
   rw [if_neg (by omega)]
   simp [h1]
 ·
  rw [if_neg (by omega)]
  simp [h0]
theorem short_go (l0 : List S39) (l1 : List S37) (l2 : List (List Int)) : ∀ (m i k : Nat), i + m = 10 → 2 * m + 2 ≤ k → taliklaw04_short.l0 k (i : Int) l0 l1 l2 = some (((l2.drop i).take m).all (fun r => decide (r.length ≤ 10)) && (decide (l0.length ≤ 8) && (decide (l1.length ≤ 77) && decide (l2.length ≤ 10)))) := by
 intro m
 induction m with
 | zero =>
  intro i k hi hk
  obtain ⟨k, rfl⟩ : ∃ k', k = k' + 2 := ⟨k - 2, by omega⟩
  unfold taliklaw04_short.l0
  have hd : decide ((i : Int) < 10) = false := by simp; omega
  rw [hd, short_end]
  simp
 | succ m ih =>
  intro i k hi hk
  obtain ⟨k, rfl⟩ : ∃ k', k = k' + 2 := ⟨k - 2, by omega⟩
  unfold taliklaw04_short.l0
  by_cases hlt : i < l2.length
  ·
   have hd : decide ((i : Int) < 10) = true := by simp; omega
   rw [if_pos (by omega), hd]
   unfold taliklaw04_short.j1
   rw [if_pos rfl, if_pos (by omega), if_pos (by omega), rd_L1_at l2 i hlt, List.drop_eq_getElem_cons hlt, List.take_succ_cons, List.all_cons]
   by_cases hr : l2[i].length ≤ 10
   ·
    rw [if_neg (by omega), wsucc i (by omega), ih (i + 1) k (by omega) (by omega)]
    simp [hr]
   ·
    rw [if_pos (by omega)]
    simp [hr]
  ·
   rw [if_neg (by omega), short_end, List.drop_eq_nil_of_le (by omega)]
   simp
theorem short_eq (l0 : List S39) (l1 : List S37) (l2 : List (List Int)) (k : Nat) (hk : 22 ≤ k) : taliklaw04_short.f k l0 l1 l2 = some (shortB l0 l1 l2) := short_go l0 l1 l2 10 0 k rfl (by omega)
theorem chkR_iff (i : Nat) : ∀ (row : List Int) (j : Nat), chkR i row j = true ↔ (∀ h ∈ row, inB h 0 72 = true) ∧ (∀ n (h : n < row.length), j + n = i → row[n] = 0)
 | [], j => by simp [chkR]
 | h :: t, j => by
  simp only [chkR, Bool.and_eq_true, Bool.or_eq_true, chkR_iff i t (j + 1), bne_iff_ne, ne_eq, beq_iff_eq, List.mem_cons, forall_eq_or_imp]
  constructor
  ·
   rintro ⟨h1, h2, h3, h4⟩
   refine ⟨⟨h1, h3⟩, fun n hn he => ?_⟩
   cases n with
   | zero => exact h2.resolve_left (fun hne => hne (by omega))
   | succ n => simpa using h4 n (by simpa using hn) (by omega)
  ·
   rintro ⟨⟨h1, h3⟩, h4⟩
   refine ⟨h1, ?_, h3, fun n hn he => h4 (n + 1) (by simp only [List.length_cons]; omega) (by omega)⟩
   by_cases he : i = j
   ·
    exact .inr (h4 0 (by simp) (by omega))
   ·
    exact .inl he
theorem rowsR_iff (n : Nat) : ∀ (l : List (List Int)) (i : Nat), rowsR n l i = true ↔ ∀ m (h : m < l.length), l[m].length = n ∧ chkR (i + m) l[m] 0 = true
 | [], i => by simp [rowsR]
 | r :: t, i => by
  simp only [rowsR, Bool.and_eq_true, decide_eq_true_eq, rowsR_iff n t (i + 1)]
  constructor
  ·
   rintro ⟨h1, h2, h3⟩ m hm
   cases m with
   | zero => exact ⟨h1, h2⟩
   | succ m => have := h3 m (by simpa using hm); simpa [Nat.add_assoc, Nat.add_comm 1 m] using this
  ·
   intro h
   refine ⟨(h 0 (by simp)).1, (h 0 (by simp)).2, fun m hm => ?_⟩
   have := h (m + 1) (by simpa using hm)
   simpa [Nat.add_assoc, Nat.add_comm 1 m] using this
theorem rows_ways (l0 : List S39) (l2 : List (List Int)) (hl : l2.length = l0.length + 1) : rowsR (l0.length + 1) l2 0 = waysB (l0.length + 1) l2 := by
 rw [Bool.eq_iff_iff, rowsR_iff]
 unfold waysB
 rw [List.all_eq_true]
 constructor
 ·
  intro h j hj
  have hj' : j < l2.length := by simpa using hj
  obtain ⟨h1, h2⟩ := h j hj'
  rw [Nat.zero_add, chkR_iff] at h2
  have e : l2.getD j [] = l2[j] := by simp [hj']
  rw [e]
  unfold rowB
  simp only [Bool.and_eq_true, decide_eq_true_eq, List.all_eq_true]
  have hz := h2.2 j (by omega) (by omega)
  refine ⟨by omega, ?_, h2.1⟩
  simp [rd, show j < l2[j].length by omega, hz]
 ·
  intro h m hm
  have h1 := h m (by simpa using hm)
  have e : l2.getD m [] = l2[m] := by simp [hm]
  rw [e] at h1
  unfold rowB at h1
  simp only [Bool.and_eq_true, decide_eq_true_eq, List.all_eq_true] at h1
  obtain ⟨h2, h3, h4⟩ := h1
  have h5 : l2[m].length = l0.length + 1 := by omega
  refine ⟨h5, ?_⟩
  rw [Nat.zero_add, chkR_iff]
  refine ⟨h4, fun n hn he => ?_⟩
  obtain rfl : n = m := by omega
  simpa [rd, hn] using h3
theorem net_eq (l0 : List S39) (l1 : List S37) (l2 : List (List Int)) (hs : Short l0 l1 l2) (k : Nat) (hk : 240 ≤ k) : talikref04_Net.f l0 l1 l2 = some (validB l0 l1 l2) := by
 have h' : talikref04_Net.f l0 l1 l2 = some (l0.all loopB && (l1.all (fun s => spanB s 0 1000) && (rowsR (l0.length + 1) l2 0 && finR l0 l1 l2))) := by
  unfold talikref04_Net.f
  rw [if_pos (of_short hs)]
 rw [h']
 congr 1
 unfold finR validB
 by_cases hl : l2.length = l0.length + 1
 ·
  have e1 : decide ((l2.length : Int) = (l0.length : Int) + 1) = true := by simp; omega
  rw [rows_ways l0 l2 hl, e1]
  simp only [hl, decide_true, Bool.and_true, Bool.true_and]
  cases l0.all loopB <;> cases (l1.all fun s => spanB s 0 1000) <;> cases waysB ((l0.length : Int) + 1) l2 <;> cases inB (l0.length : Int) 1 5 <;> cases inB (l1.length : Int) 1 72 <;> simp
 ·
  have e1 : decide ((l2.length : Int) = (l0.length : Int) + 1) = false := by simp; omega
  rw [e1]
  simp [hl]
end Go.Proofs.Ytipphcjgdebecaa.PA
namespace Go.Proofs.Ytipphcjgdebecaa.PA
open Go.RowKit Go.Shelf Go.Proofs.YtipphcjgdebecaaW.PrintWords Go.Proofs.YtipphcjgdebecaaW.PrintLast Go.Proofs.YtipphcjgdebecaaW.PrintMore
attribute [local go_sem] qaw qay max_two min_two qas qat qax qaz
theorem rd_at (l : List Int) (i : Nat) (h : i < l.length) : rd l (i : Int) = l[i] := by simp [rd, h]
end Go.Proofs.Ytipphcjgdebecaa.PA
namespace Go.Proofs.Ytipphcjgdebecaa.PA
open Go.RowKit Go.Proofs.YtipphcjgdebecaaW.PrintWords Go.Proofs.YtipphcjgdebecaaW.PrintLast Go.Proofs.YtipphcjgdebecaaW.PrintMore
attribute [local go_sem] qaw qay max_two min_two qas qat qax qaz
def endL (L : S39) (l1 : List S37) (n : Nat) (most : Bool) : List S44 := (List.range n).map fun h : Nat => ⟨if most = true then L.f1.f1 else L.f1.f0, if most = true then (rd_T37 l1 h).f1 else (rd_T37 l1 h).f0, false⟩
theorem endL_succ (L : S39) (l1 : List S37) (n : Nat) (most : Bool) : endL L l1 (n + 1) most = endL L l1 n most ++ [⟨if most = true then L.f1.f1 else L.f1.f0, if most = true then (rd_T37 l1 n).f1 else (rd_T37 l1 n).f0, false⟩] := by simp [endL, List.range_succ]
structure WMI (w : World) (gb g6 g7 : Nat) (nb : Array Value) (L : S39) (W : World) : Prop where
 b : W.heap[gb]? = some (.cells nb 26 (0, 0))
 r : W.heap[g6]? = some (.cells #[.int .i64 0, .int .i64 0] 37 (0, 0))
 l : W.heap[g7]? = some (.cells #[.int .i64 L.f0.f0, .int .i64 L.f0.f1, .int .i64 L.f1.f0, .int .i64 L.f1.f1, .int .i64 L.f2.f0, .int .i64 L.f2.f1, .int .i64 L.f3, .int .i64 L.f4, .int .i64 L.f5, .int .i64 L.f6, .int .i64 L.f7.f0, .int .i64 L.f7.f1] 39 (0, 0))
 hb : Below w.heap.size w W
 ge : w.heap.size ≤ g6
theorem WMI.below {w W W' : World} {gb g6 g7 : Nat} {nb : Array Value} {L : S39} (h : WMI w gb g6 g7 nb L W) (hb : Below W.heap.size W W') : WMI w gb g6 g7 nb L W' := ⟨qag h.b hb, qag h.r hb, qag h.l hb, qad h.hb hb, h.ge⟩
end Go.Proofs.Ytipphcjgdebecaa.PA
namespace Go.Proofs.Ytipphcjgdebecaa.PA
open Go.RowKit Go.Shelf Go.Proofs.YtipphcjgdebecaaW.PrintWords Go.Proofs.YtipphcjgdebecaaW.PrintLast Go.Proofs.YtipphcjgdebecaaW.PrintMore
attribute [local go_sem] qaw qay max_two min_two qas qat qax qaz
def cold (k c w : Int) : Int := w - min w (k * (w + c) / 1000)
theorem cold_bd {k c w : Int} (k0 : 0 ≤ k) (c0 : 0 ≤ c) (w0 : 0 ≤ w) : 0 ≤ cold k c w ∧ cold k c w ≤ w := by
 have h : 0 ≤ k * (w + c) := Int.mul_nonneg k0 (by omega)
 unfold cold
 omega
theorem cold_mono {k k' c c' w w' : Int} (k1 : k' ≤ 1000) (hk : k ≤ k') (k0 : 0 ≤ k) (hc : c ≤ c') (c0 : 0 ≤ c) (w0 : 0 ≤ w') (hw : w' ≤ w) : cold k' c' w' ≤ cold k c w := by
 have h1 : k * (w' + c) ≤ k' * (w' + c') := Int.mul_le_mul hk (by omega) (by omega) (by omega)
 have h2 : k * (w + c) = k * (w' + c) + k * (w - w') := by rw [← Int.mul_add]; congr 1; omega
 have h3 : k * (w - w') ≤ 1000 * (w - w') := Int.mul_le_mul_of_nonneg_right (by omega) (by omega)
 have h4 : 0 ≤ k * (w' + c) := Int.mul_nonneg k0 (by omega)
 have h5 : 0 ≤ k * (w - w') := Int.mul_nonneg k0 (by omega)
 unfold cold
 omega
theorem loss_tdiv {k c w : Int} (k0 : 0 ≤ k) (k1 : k ≤ 1000) (c0 : 0 ≤ c) (c1 : c ≤ 1000) (w0 : 0 ≤ w) (w1 : w ≤ 1000) : wrap64 (Int.tdiv (wrap64 (k * wrap64 (w + c))) 1000) = k * (w + c) / 1000 ∧ 0 ≤ k * (w + c) / 1000 ∧ k * (w + c) / 1000 ≤ 2000 := by
 obtain ⟨p0, p1⟩ := mul_small k0 k1 (b := w + c) (B := 2000) (by omega) (by omega)
 rw [wrap_id (x := w + c) (by omega) (by omega), wrap_id (x := k * (w + c)) (by omega) (by omega), Int.tdiv_eq_ediv_of_nonneg p0, wrap_id (by omega) (by omega)]
 exact ⟨rfl, by omega, by omega⟩
theorem cold_prog {k c w : Int} (k0 : 0 ≤ k) (k1 : k ≤ 1000) (c0 : 0 ≤ c) (c1 : c ≤ 1000) (w0 : 0 ≤ w) (w1 : w ≤ 1000) : wrap64 (w - lossV k c w) = cold k c w := by
 obtain ⟨e, d0, d1⟩ := loss_tdiv k0 k1 c0 c1 w0 w1
 have hl : lossV k c w = min (k * (w + c) / 1000) w := by
  show mn (wrap64 (Int.tdiv (wrap64 (k * (wrap64 (w + c)))) 1000)) (wrap64 (w + 0)) = _
  rw [e, mn_min, wrap_id (x := w + 0) (by omega) (by omega), Int.add_zero]
 rw [hl]
 unfold cold
 rw [wrap_id (by omega) (by omega)]
 omega
theorem cold_ref {L : S39} {T : S44} {x : Heat4} (hf : T.f2 = false) (k0 : 0 ≤ T.f0) (k1 : T.f0 ≤ 1000) (c0 : 0 ≤ T.f1) (c1 : T.f1 ≤ 1000) (w0 : 0 ≤ x.1) (w1 : x.1 ≤ 1000) : (stepR L T x).1 = cold T.f0 T.f1 x.1 := by
 obtain ⟨e, d0, d1⟩ := loss_tdiv k0 k1 c0 c1 w0 w1
 have hz : feedV L T = 0 := by unfold feedV; rw [hf]; rfl
 have hl : lossR L x.1 T = min x.1 (T.f0 * (x.1 + T.f1) / 1000) := by
  unfold lossR
  rw [e, hf, if_neg (by decide), mn_min]
 show wrap64 (wrap64 (x.1 + feedV L T) - lossR L x.1 T) = _
 rw [hz, hl, wrap_id (x := x.1 + 0) (by omega) (by omega), wrap_id (by omega) (by omega)]
 unfold cold
 omega
def Unfed (T : S44) : Prop := T.f2 = false ∧ 0 ≤ T.f0 ∧ T.f0 ≤ 1000 ∧ 0 ≤ T.f1 ∧ T.f1 ≤ 1000
def coldL (w : Int) (l : List S44) : Int := l.foldl (fun x T => cold T.f0 T.f1 x) w
theorem coldL_bd : ∀ (l : List S44) (w : Int), (∀ T ∈ l, Unfed T) → 0 ≤ w → 0 ≤ coldL w l ∧ coldL w l ≤ w
 | [], w, _, h0 => ⟨h0, Int.le_refl _⟩
 | T :: t, w, h, h0 => by
  have hT := h T (by simp)
  have h1 := cold_bd hT.2.1 hT.2.2.2.1 h0
  have h2 := coldL_bd t (cold T.f0 T.f1 w) (fun x hx => h x (by simp [hx])) h1.1
  show 0 ≤ coldL (cold T.f0 T.f1 w) t ∧ coldL (cold T.f0 T.f1 w) t ≤ w
  omega
theorem play_cold (L : S39) : ∀ (l : List S44) (x : Heat4), (∀ T ∈ l, Unfed T) → 0 ≤ x.1 → x.1 ≤ 1000 → (l.foldl (fun x T => stepR L T x) x).1 = coldL x.1 l
 | [], x, _, _, _ => rfl
 | T :: t, x, h, h0, h1 => by
  have hT := h T (by simp)
  have e := cold_ref (L := L) (x := x) hT.1 hT.2.1 hT.2.2.1 hT.2.2.2.1 hT.2.2.2.2 h0 h1
  have hb := cold_bd hT.2.1 hT.2.2.2.1 h0
  rw [List.foldl_cons, play_cold L t _ (fun y hy => h y (by simp [hy])) (by rw [e]; omega) (by rw [e]; omega), e]
  rfl
theorem rdT37_at (l1 : List S37) (h : Nat) (hh : h < l1.length) : rd_T37 l1 (h : Int) = l1[h] := by simp [rd_T37, hh]
theorem frost_at {l0 : List S39} {l1 : List S37} {l2 : List (List Int)} (hN : NetOk l0 l1 l2) (h : Nat) (hh : h < l1.length) : 0 ≤ (rd_T37 l1 (h : Int)).f0 ∧ (rd_T37 l1 (h : Int)).f0 ≤ (rd_T37 l1 (h : Int)).f1 ∧ (rd_T37 l1 (h : Int)).f1 ≤ 1000 := by
 rw [rdT37_at l1 h hh]
 exact hN.frost _ (List.getElem_mem hh)
theorem endL_unfed {l0 : List S39} {l1 : List S37} {l2 : List (List Int)} (hN : NetOk l0 l1 l2) {L : S39} (hL : LoopOk L) (n : Nat) (hn : n ≤ l1.length) (most : Bool) : ∀ T ∈ endL L l1 n most, Unfed T := by
 intro T hT
 unfold endL at hT
 simp only [List.mem_map, List.mem_range] at hT
 obtain ⟨h, hh, rfl⟩ := hT
 have hf := frost_at hN h (by omega)
 have k0 := hL.k0
 have k1 := hL.k1
 have k2 := hL.k2
 unfold Unfed
 cases most <;> simp <;> omega
def lowW (L : S39) (l1 : List S37) (n : Nat) : Int := coldL L.f0.f0 (endL L l1 n true)
def highW (L : S39) (l1 : List S37) (n : Nat) : Int := coldL L.f0.f1 (endL L l1 n false)
theorem low_bd {l0 : List S39} {l1 : List S37} {l2 : List (List Int)} (hN : NetOk l0 l1 l2) {L : S39} (hL : LoopOk L) (n : Nat) (hn : n ≤ l1.length) : 0 ≤ lowW L l1 n ∧ lowW L l1 n ≤ 1000 := by
 have h := coldL_bd _ L.f0.f0 (endL_unfed hN hL n hn true) (by have := hL.w0; omega)
 have := hL.w1
 have := hL.w2
 unfold lowW
 omega
theorem high_bd {l0 : List S39} {l1 : List S37} {l2 : List (List Int)} (hN : NetOk l0 l1 l2) {L : S39} (hL : LoopOk L) (n : Nat) (hn : n ≤ l1.length) : 0 ≤ highW L l1 n ∧ highW L l1 n ≤ 1000 := by
 have h := coldL_bd _ L.f0.f1 (endL_unfed hN hL n hn false) (by have := hL.w0; have := hL.w1; omega)
 have := hL.w2
 unfold highW
 omega
theorem coldL_append (w : Int) (l : List S44) (T : S44) : coldL w (l ++ [T]) = cold T.f0 T.f1 (coldL w l) := by simp [coldL]
theorem low_succ (L : S39) (l1 : List S37) (n : Nat) : lowW L l1 (n + 1) = cold L.f1.f1 (rd_T37 l1 n).f1 (lowW L l1 n) := by
 unfold lowW
 rw [endL_succ, coldL_append]
 rfl
theorem high_succ (L : S39) (l1 : List S37) (n : Nat) : highW L l1 (n + 1) = cold L.f1.f0 (rd_T37 l1 n).f0 (highW L l1 n) := by
 unfold highW
 rw [endL_succ, coldL_append]
 rfl
theorem bitB_zero (i : Int) : bitB 0 i = false := by
 unfold bitB
 rw [Int.zero_ediv]
 rfl
theorem warmth_at {l0 : List S39} {l1 : List S37} {l2 : List (List Int)} (hN : NetOk l0 l1 l2) (i : Int) (i0 : 0 ≤ i) (i1 : i < l0.length) :
  ∀ n : Nat, n ≤ l1.length → wAt (fun h x => leastV l0 l1 0 i h x) (qal l0 i).f0.f0 n = lowW (qal l0 i) l1 n ∧ wAt (fun h x => greatestV l0 l1 0 i h x) (qal l0 i).f0.f1 n = highW (qal l0 i) l1 n := by
 have hL := hN.loops _ (rdT39_mem i0 i1)
 have k0 := hL.k0
 have k1 := hL.k1
 have k2 := hL.k2
 intro n
 induction n with
 | zero => intro _; exact ⟨rfl, rfl⟩
 | succ n ih =>
  intro hn
  obtain ⟨h1, h2⟩ := ih (by omega)
  have hf := frost_at hN n (by omega)
  have hl := low_bd hN hL n (by omega)
  have hh := high_bd hN hL n (by omega)
  rw [low_succ, high_succ]
  refine ⟨?_, ?_⟩
  ·
   show leastV l0 l1 0 i n (wAt (fun h x => leastV l0 l1 0 i h x) (qal l0 i).f0.f0 n) = _
   rw [h1]
   unfold leastV
   rw [bitB_zero]
   exact cold_prog (by show 0 ≤ (qal l0 i).f1.f1; omega) k2 (by omega) hf.2.2 hl.1 hl.2
  ·
   show greatestV l0 l1 0 i n (wAt (fun h x => greatestV l0 l1 0 i h x) (qal l0 i).f0.f1 n) = _
   rw [h2]
   unfold greatestV
   rw [bitB_zero]
   exact cold_prog k0 (by show (qal l0 i).f1.f0 ≤ 1000; omega) hf.1 (by omega) hh.1 hh.2
def rowW (L : S39) (l1 : List S37) (n : Nat) : List S37 := (List.range n).map fun h => ⟨lowW L l1 (h + 1), highW L l1 (h + 1)⟩
theorem rowW_length (L : S39) (l1 : List S37) (n : Nat) : (rowW L l1 n).length = n := by simp [rowW]
theorem warmthV_eq {l0 : List S39} {l1 : List S37} {l2 : List (List Int)} (hN : NetOk l0 l1 l2) (i : Int) (i0 : 0 ≤ i) (i1 : i < l0.length) : warmthV l0 l1 0 i = rowW (qal l0 i) l1 l1.length := by
 unfold warmthV rowW
 refine List.map_congr_left fun h hh => ?_
 have h1 := warmth_at hN i i0 i1 (h + 1) (by have := List.mem_range.1 hh; omega)
 rw [h1.1, h1.2]
theorem low_high {l0 : List S39} {l1 : List S37} {l2 : List (List Int)} (hN : NetOk l0 l1 l2) {L : S39} (hL : LoopOk L) : ∀ n : Nat, n ≤ l1.length → lowW L l1 n ≤ highW L l1 n := by
 intro n
 induction n with
 | zero => intro _; exact hL.w1
 | succ n ih =>
  intro hn
  have hf := frost_at hN n (by omega)
  have hl := low_bd hN hL n (by omega)
  rw [low_succ, high_succ]
  exact cold_mono hL.k2 hL.k1 hL.k0 hf.2.1 hf.1 hl.1 (ih (by omega))
theorem rowW_ok {l0 : List S39} {l1 : List S37} {l2 : List (List Int)} (hN : NetOk l0 l1 l2) {L : S39} (hL : LoopOk L) : ∀ s ∈ rowW L l1 l1.length, 0 ≤ s.f0 ∧ s.f0 ≤ s.f1 := by
 intro s hs
 unfold rowW at hs
 simp only [List.mem_map, List.mem_range] at hs
 obtain ⟨h, hh, rfl⟩ := hs
 exact ⟨(low_bd hN hL (h + 1) (by omega)).1, low_high hN hL (h + 1) (by omega)⟩
end Go.Proofs.Ytipphcjgdebecaa.PA
namespace Go.Proofs.Ytipphcjgdebecaa.PA
open Go.RowKit Go.Proofs.YtipphcjgdebecaaW.PrintWords Go.Proofs.YtipphcjgdebecaaW.PrintLast Go.Proofs.YtipphcjgdebecaaW.PrintMore
attribute [local go_sem] qaw qay max_two min_two qas qat qax qaz
def taliklaw04_percents.l0 : Nat → List Int → Int → Option (Bool)
 | 0, _, _ => none
 | k + 1, x0, x3 => if x3 < (x0.length : Int) then (if 0 ≤ x3 then (if (rd x0 x3) < 0 then (some false) else (if (rd x0 x3) > 100 then (some false) else (taliklaw04_percents.l0 k x0 (wrap64 (x3 + 1))))) else (none)) else (if (x0.length : Int) ≥ 1 then (some (decide ((x0.length : Int) ≤ 200))) else (some false))
def taliklaw04_percents.f (k : Nat) (l0 : List Int) : Option (Bool) := taliklaw04_percents.l0 k l0 0
theorem taliklaw04_percents.calls (k : Nat) (A0 : Option Addr) (c0 : Nat) (l0 : List Int) (r : Bool) (w : World) (hr0 : Kd.C (Kd.int .i64) w A0 l0.length l0) (hc0 : l0.length ≤ c0) (h : taliklaw04_percents.f k l0 = some r) :
  Calls Try.prog 33 #[.slice A0 l0.length c0] w fun e w' => e = .returned (.bool r) ∧ Drawn0 w w' := by
 have HR0 := qab.mk hr0
 have HC0 := qab.mk hc0
 clear hr0 hc0
 have H : (taliklaw04_percents.l0 k l0 0) = some r := h
 clear h
 have H' := qab.mk H
 clear H
 go_enter Try.func33, Try.ntmps33
 go_wp2
 go_loopg [3] k (fun kq v3 w' => ∃ (x3_1 : Int), v3 = .int .i64 x3_1 ∧ qab (taliklaw04_percents.l0 kq l0 x3_1 = some r) ∧ qab (kq ≤ k) ∧ Drawn0 w w')
 case atStart => exact ⟨(0), (by first | rfl | (simp; done) | (simp [*]; done)), H', ⟨Nat.le_refl _⟩, by repeat (first | exact Drawn0.refl _ | apply Drawn0.step)⟩
 case round =>
  clear H'
  obtain ⟨x3_1, rfl, HA, HK1, ⟨m1, rfl⟩⟩ := hrel
  cases gk with
  | zero => exact absurd HA.out (by simp [taliklaw04_percents.l0])
  | succ k1 =>
   have H := HA.out
   clear HA
   simp only [taliklaw04_percents.l0] at H
   by_cases c2 : x3_1 < (l0.length : Int)
   ·
    rw [if_pos c2] at H
    have c2b0 : decide (x3_1 < (l0.length : Int)) = true := decide_eq_true c2
    clear c2
    by_cases c3 : 0 ≤ x3_1
    ·
     rw [if_pos c3] at H
     have c3b0 : decide (0 ≤ x3_1) = true := decide_eq_true c3
     clear c3
     by_cases c4 : (rd l0 x3_1) < 0
     ·
      rw [if_pos c4] at H
      have c4b0 : decide ((rd l0 x3_1) < 0) = true := decide_eq_true c4
      clear c4
      obtain rfl := Option.some.inj H
      have p298 : 0 ≤ (x3_1 : Int) := of_decide_eq_true (by first | (with_reducible assumption) | assumption)
      have q298 : x3_1 < (l0.length : Int) := of_decide_eq_true (by first | (with_reducible assumption) | assumption)
      obtain ⟨ad298, e298, hx298_0⟩ := Kd.at_int HR0.out x3_1 p298 q298
      cases e298
      replace p298 := eq_true p298
      replace q298 := eq_true q298
      go_wp2
      go_ret
      exact ⟨by first | rfl | (simp; done) | (simp [*]; done), by repeat (first | exact Drawn0.refl _ | apply Drawn0.step)⟩
     ·
      rw [if_neg c4] at H
      have c4b0 : decide ((rd l0 x3_1) < 0) = false := decide_eq_false c4
      clear c4
      by_cases c5 : (rd l0 x3_1) > 100
      ·
       rw [if_pos c5] at H
       have c5b0 : decide (100 < (rd l0 x3_1)) = true := decide_eq_true c5
       clear c5
       obtain rfl := Option.some.inj H
       have p298 : 0 ≤ (x3_1 : Int) := of_decide_eq_true (by first | (with_reducible assumption) | assumption)
       have q298 : x3_1 < (l0.length : Int) := of_decide_eq_true (by first | (with_reducible assumption) | assumption)
       obtain ⟨ad298, e298, hx298_0⟩ := Kd.at_int HR0.out x3_1 p298 q298
       cases e298
       replace p298 := eq_true p298
       replace q298 := eq_true q298
       have p299 : 0 ≤ (x3_1 : Int) := of_decide_eq_true (by first | (with_reducible assumption) | assumption)
       have q299 : x3_1 < (l0.length : Int) := of_decide_eq_true (by first | (with_reducible assumption) | assumption)
       obtain ⟨ad299, e299, hx299_0⟩ := Kd.at_int HR0.out x3_1 p299 q299
       obtain rfl : ad298 = ad299 := (by injection e299)
       replace p299 := eq_true p299
       replace q299 := eq_true q299
       go_wp2
       go_ret
       exact ⟨by first | rfl | (simp; done) | (simp [*]; done), by repeat (first | exact Drawn0.refl _ | apply Drawn0.step)⟩
      ·
       rw [if_neg c5] at H
       have c5b0 : decide (100 < (rd l0 x3_1)) = false := decide_eq_false c5
       clear c5
       have H' := qab.mk H
       clear H
       have p298 : 0 ≤ (x3_1 : Int) := of_decide_eq_true (by first | (with_reducible assumption) | assumption)
       have q298 : x3_1 < (l0.length : Int) := of_decide_eq_true (by first | (with_reducible assumption) | assumption)
       obtain ⟨ad298, e298, hx298_0⟩ := Kd.at_int HR0.out x3_1 p298 q298
       cases e298
       replace p298 := eq_true p298
       replace q298 := eq_true q298
       have p299 : 0 ≤ (x3_1 : Int) := of_decide_eq_true (by first | (with_reducible assumption) | assumption)
       have q299 : x3_1 < (l0.length : Int) := of_decide_eq_true (by first | (with_reducible assumption) | assumption)
       obtain ⟨ad299, e299, hx299_0⟩ := Kd.at_int HR0.out x3_1 p299 q299
       obtain rfl : ad298 = ad299 := (by injection e299)
       replace p299 := eq_true p299
       replace q299 := eq_true q299
       go_wp2
       go_roundg k1
       case measure => have := HK1.out; omega
       case rel => exact ⟨(wrap64 (x3_1 + 1)), (by first | rfl | (simp; done) | (simp [*]; done)), H', ⟨by have := HK1.out; omega⟩, by repeat (first | exact Drawn0.refl _ | apply Drawn0.step)⟩
    ·
     rw [if_neg c3] at H
     exact absurd H (by simp)
   ·
    rw [if_neg c2] at H
    have c2b0 : decide (x3_1 < (l0.length : Int)) = false := decide_eq_false c2
    clear c2
    by_cases c6 : (l0.length : Int) ≥ 1
    ·
     rw [if_pos c6] at H
     have c6b0 : decide (1 ≤ (l0.length : Int)) = true := decide_eq_true c6
     have c6b1 : decide (1 ≤ l0.length) = true := decide_eq_true (by omega)
     clear c6
     obtain rfl := Option.some.inj H
     go_wp2
     go_ret
     exact ⟨by first | rfl | (simp; done) | (simp [*]; done), by repeat (first | exact Drawn0.refl _ | apply Drawn0.step)⟩
    ·
     rw [if_neg c6] at H
     have c6b0 : decide (1 ≤ (l0.length : Int)) = false := decide_eq_false c6
     have c6b1 : decide (1 ≤ l0.length) = false := decide_eq_false (by omega)
     clear c6
     obtain rfl := Option.some.inj H
     go_wp2
     go_ret
     exact ⟨by first | rfl | (simp; done) | (simp [*]; done), by repeat (first | exact Drawn0.refl _ | apply Drawn0.step)⟩
def taliklaw04_part.f (a0_0 : Int) (a0_1 : Int) (a1 : Int) : Option (Int) := some (wrap64 (a0_0 + (wrap64 (Int.tdiv (wrap64 ((wrap64 (a0_1 - a0_0)) * a1)) 100))))
theorem taliklaw04_part.calls (a0_0 : Int) (a0_1 : Int) (a1 : Int) (r : Int) (w : World) (h : taliklaw04_part.f a0_0 a0_1 a1 = some r) :
  Calls Try.prog 34 #[.agg #[.int .i64 a0_0, .int .i64 a0_1], .int .i64 a1] w fun e w' => e = .returned (.int .i64 r) ∧ Below w.heap.size w w' := by
 have hu37 := Try.underlying37
 have HB := qab.mk (Below.refl w.heap.size w)
 have H : (some (wrap64 (a0_0 + (wrap64 (Int.tdiv (wrap64 ((wrap64 (a0_1 - a0_0)) * a1)) 100))))) = some r := h
 clear h
 obtain rfl := Option.some.inj H
 go_enter Try.func34, Try.ntmps34
 go_wp2_with (first | ((with_reducible refine qan (N := 2) rfl ?_); refine qam ?hg (N := 2) ?hd (cs := #[.int .i64 a0_0, .int .i64 a0_1]) (t := 37) ?hr ?_; (case hd => rfl); (case hg => rfl); (case hr => first | (go_simp; done) | (go_simp; rfl)); intro gb300 hg w3 hbox hb; have n0_ := qab.mk (qad (by repeat (first | (with_reducible first | exact HB.out | apply qaf | apply qae | apply qah) | exact HB.out)) hb); have n1_ := qab.mk (hbox); have n2_ := qab.mk ((by rw [hg]; exact (qap (by repeat (first | (with_reducible first | exact HB.out | apply qaf | apply qae | apply qah) | exact HB.out))) : w.heap.size ≤ gb300)); have n3_ := qab.mk ((by rw [hg]; exact (qap (by repeat (first | (with_reducible first | exact HB.out | apply qaf | apply qae | apply qah) | exact HB.out))) : w.heap.size ≤ gb300)); clear HB; have HB := n0_; have BK300 := n1_; have GW300 := n2_; have GE300 := n3_; clear n0_ n1_ n2_ n3_; clear hb hbox hg; have hcz4_0 : w3.cell? ⟨gb300, 0, none⟩ = some (.int .i64 a0_0) := (qaa BK300.out 0).trans rfl; have hcz4_1 : w3.cell? ⟨gb300, 1, none⟩ = some (.int .i64 a0_1) := (qaa BK300.out 1).trans rfl; have hfz4_0 := qac BK300.out 0; have hfz4_1 := qac BK300.out 1))
 go_ret
 exact ⟨by first | rfl | (simp [qau, qav] <;> rfl) | (simp [*, qau, qav] <;> rfl), by repeat (first | (with_reducible first | exact HB.out | apply qaf | apply qae | apply qah | refine qai ?_ GE300.out) | exact HB.out)⟩
end Go.Proofs.Ytipphcjgdebecaa.PA
