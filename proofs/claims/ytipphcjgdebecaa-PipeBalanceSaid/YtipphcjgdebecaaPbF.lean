/- Parts of a proof about the pipe seat's laws: what the functions of the program answer. No condition of its own. -/
import Derived.RangeFuncNested
import Derived.RangeFuncBound
import Derived.RangeFuncCalls
import Derived.RangeFuncLeaves
import Derived.RangeFuncBox
import Derived.Shelf.Abstract
import Derived.Shelf.RegionOpen
import Derived.OwnWalkIn
import Derived.TacticsInMore
import Derived.LoopNIn
import Derived.LoopIn
import Derived.Recover
import Derived.Defers
import Derived.WalkLawsBesides
import Derived.WalkSmall
import Derived.Test.YtipphcjgdebecaaSC
import Derived.Test.YtipphcjgdebecaaSF
import Derived.Test.YtipphcjgdebecaaSO
import Derived.Test.YtipphcjgdebecaaPbA
import Derived.Test.YtipphcjgdebecaaPbD
import Derived.Test.YtipphcjgdebecaaPbE
import Derived.Test.YtipphcjgdebecaaSG
import Derived.Deep.Slices
import Derived.Lib.SmallJoins
import Derived.ChangeOld
import Derived.ProofKit
set_option linter.all false
namespace Go.Proofs.Ytipphcjgdebecaa.PA
open Go.RowKit Go.Shelf Go.Proofs.YtipphcjgdebecaaW.PrintWords Go.Proofs.YtipphcjgdebecaaW.PrintLast Go.Proofs.YtipphcjgdebecaaW.PrintMore
attribute [local go_sem] max2_int min2_int max_two min_two max_three min_three max_four min_four
def fedN : List S44 → Nat
 | [] => 0
 | T :: t => (if T.f2 = true then 1 else 0) + fedN t
theorem fedN_le : ∀ l : List S44, fedN l ≤ l.length
 | [] => Nat.le_refl _
 | T :: t => by
  have := fedN_le t
  simp only [fedN, List.length_cons]
  split <;> omega
theorem bal_go (L : S39) (hL : LoopOk L) (warm : Int) : ∀ (l3 : List S44) (l1 : List S37) (x : Heat4) (n m : Nat), truthB L l3 l1 = true → (∀ F ∈ l1, 0 ≤ F.f0 ∧ F.f0 ≤ F.f1 ∧ F.f1 ≤ 1000) → n + l3.length ≤ 90 → HeatOk n x →
  x.2.1 = L.f4 * L.f6 * m → L.f4 * warm + x.2.1 = L.f4 * x.1 + x.2.2.1 + x.2.2.2 →
  (l3.foldl (fun x T => stepR L T x) x).2.1 = L.f4 * L.f6 * ((m + fedN l3 : Nat) : Int) ∧
  L.f4 * warm + (l3.foldl (fun x T => stepR L T x) x).2.1 = L.f4 * (l3.foldl (fun x T => stepR L T x) x).1 + (l3.foldl (fun x T => stepR L T x) x).2.2.1 + (l3.foldl (fun x T => stepR L T x) x).2.2.2 ∧
  x.2.2.1 ≤ (l3.foldl (fun x T => stepR L T x) x).2.2.1 ∧ x.2.2.2 ≤ (l3.foldl (fun x T => stepR L T x) x).2.2.2
 | [], l1, x, n, m, h, hf, hn, hx, hb, hc => ⟨hb, hc, Int.le_refl _, Int.le_refl _⟩
 | T :: ts, [], x, n, m, h, hf, hn, hx, hb, hc => by simp [truthB] at h
 | T :: ts, F :: fs, x, n, m, h, hf, hn, hx, hb, hc => by
  simp only [truthB, Bool.and_eq_true] at h
  obtain ⟨hA, hB, hC⟩ := h
  have hF := hf F (by simp)
  have hA' := hA
  have hB' := hB
  unfold inB at hA' hB'
  simp only [Bool.and_eq_true, decide_eq_true_eq] at hA' hB'
  have k0 := hL.k0
  have k2 := hL.k2
  simp only [List.length_cons] at hn
  obtain ⟨_, h2, lost, l0, l1', g0, g1, _, key⟩ := step_eq hL (T := T) (by omega) (by omega) (by omega) (by omega) (n := n) (by omega) hx
  simp only [List.foldl_cons]
  have hfeed : L.f4 * feedV L T = L.f4 * L.f6 * (if T.f2 = true then 1 else 0 : Nat) := by
   unfold feedV
   split <;> simp
  have hb2 : (stepR L T x).2.1 = L.f4 * L.f6 * ((m + (if T.f2 = true then 1 else 0) : Nat) : Int) := by
   rw [key]
   show x.2.1 + L.f4 * feedV L T = _
   rw [hb, hfeed, Int.natCast_add, Int.mul_add]
  have hc2 : L.f4 * warm + (stepR L T x).2.1 = L.f4 * (stepR L T x).1 + (stepR L T x).2.2.1 + (stepR L T x).2.2.2 := by
   rw [key]
   show L.f4 * warm + (x.2.1 + L.f4 * feedV L T) = L.f4 * (x.1 + feedV L T - lost) + (x.2.2.1 + L.f4 * lost * L.f5 / 1000) + (x.2.2.2 + L.f4 * lost - L.f4 * lost * L.f5 / 1000)
   have e1 : L.f4 * (x.1 + feedV L T - lost) = L.f4 * x.1 + L.f4 * feedV L T - L.f4 * lost := by rw [Int.mul_sub, Int.mul_add]
   rw [e1]
   omega
  obtain ⟨r1, r2, r3, r4⟩ := bal_go L hL warm ts fs (stepR L T x) (n + 1) _ hC (fun F' hF' => hf F' (by simp [hF'])) (by omega) h2 hb2 hc2
  have e3 : (stepR L T x).2.2.1 = x.2.2.1 + L.f4 * lost * L.f5 / 1000 := by rw [key]
  have e4 : (stepR L T x).2.2.2 = x.2.2.2 + L.f4 * lost - L.f4 * lost * L.f5 / 1000 := by rw [key]
  refine ⟨?_, r2, by omega, by omega⟩
  rw [r1]
  simp only [fedN]
  rw [Nat.add_assoc]
theorem truthB_take (L : S39) : ∀ (l3 : List S44) (l1 : List S37) (j : Nat), truthB L l3 l1 = true → truthB L (l3.take j) l1 = true
 | [], l1, j, h => by simp [truthB]
 | T :: ts, l1, 0, h => by simp [truthB]
 | T :: ts, [], j + 1, h => by simp [truthB] at h
 | T :: ts, F :: fs, j + 1, h => by
  simp only [truthB, Bool.and_eq_true, List.take_succ_cons] at h ⊢
  exact ⟨h.1, h.2.1, truthB_take L ts fs j h.2.2⟩
theorem truthB_drop (L : S39) : ∀ (l3 : List S44) (l1 : List S37) (j : Nat), truthB L l3 l1 = true → truthB L (l3.drop j) (l1.drop j) = true
 | [], l1, j, h => by simp [truthB]
 | T :: ts, l1, 0, h => by simpa using h
 | T :: ts, [], j + 1, h => by simp [truthB] at h
 | T :: ts, F :: fs, j + 1, h => by
  simp only [truthB, Bool.and_eq_true, List.drop_succ_cons] at h ⊢
  exact truthB_drop L ts fs j h.2.2
theorem sane_true {L : S39} (hL : LoopOk L) {n m : Nat} (hn : n ≤ 90) (hm : m ≤ 90) {x : Heat4} (hx : HeatOk n x) {warm : Int} (w0 : 0 ≤ warm) (w1 : warm ≤ 1000) (hb : x.2.1 = L.f4 * L.f6 * (m : Int)) (hc : L.f4 * warm + x.2.1 = L.f4 * x.1 + x.2.2.1 + x.2.2.2) :
  taliklaw04_sane.f (L.f0.f0) (L.f0.f1) (L.f1.f0) (L.f1.f1) (L.f2.f0) (L.f2.f1) (L.f3) (L.f4) (L.f5) (L.f6) (L.f7.f0) (L.f7.f1) x.1 x.2.1 x.2.2.1 x.2.2.2 (m : Int) warm = some true := by
 have ha0 := hx.a0
 have ha1 := hx.a1
 have hb0 := hx.b0
 have hb1 := hx.b1
 have hc0 := hx.c0
 have hc1 := hx.c1
 have hd0 := hx.d0
 have hd1 := hx.d1
 have hm0 := hL.m0
 have hm1 := hL.m1
 obtain ⟨p0, p1⟩ := mul_small (a := L.f4) (A := 10000) (b := L.f6) (B := 1000) (by omega) hm1 hL.e0 hL.e1
 obtain ⟨q0, q1⟩ := mul_small (a := L.f4 * L.f6) (A := 10000000) (b := (m : Int)) (B := 90) p0 (by omega) (by omega) (by omega)
 obtain ⟨r0, r1⟩ := mul_small (a := L.f4) (A := 10000) (b := warm) (B := 1000) (by omega) hm1 w0 w1
 obtain ⟨s0, s1⟩ := mul_small (a := L.f4) (A := 10000) (b := x.1) (B := 100000) (by omega) hm1 ha0 (by omega)
 unfold taliklaw04_sane.f
 rw [if_pos ⟨by omega, by omega, by rw [wrap_id (x := L.f4 * L.f6) (by omega) (by omega), wrap_id (x := L.f4 * L.f6 * m) (by omega) (by omega)]; exact hb, by omega, by omega, by omega, by omega⟩,
  wrap_id (x := L.f4 * warm) (by omega) (by omega), wrap_id (x := L.f4 * x.1) (by omega) (by omega),
  wrap_id (x := L.f4 * warm + x.2.1) (by omega) (by omega), wrap_id (x := L.f4 * x.1 + x.2.2.1) (by omega) (by omega), wrap_id (x := L.f4 * x.1 + x.2.2.1 + x.2.2.2) (by omega) (by omega), hc]
 simp
def balEnd (L : S39) (x y : Heat4) (a2 : Int) (c d : Int) : Option Bool :=
 (taliklaw04_sane.f (L.f0.f0) (L.f0.f1) (L.f1.f0) (L.f1.f1) (L.f2.f0) (L.f2.f1) (L.f3) (L.f4) (L.f5) (L.f6) (L.f7.f0) (L.f7.f1) x.1 x.2.1 x.2.2.1 x.2.2.2 c a2).bind fun t253 => (if t253 = true then ((taliklaw04_sane.f (L.f0.f0) (L.f0.f1) (L.f1.f0) (L.f1.f1) (L.f2.f0) (L.f2.f1) (L.f3) (L.f4) (L.f5) (L.f6) (L.f7.f0) (L.f7.f1) y.1 y.2.1 y.2.2.1 y.2.2.2 d a2).bind fun t254 => (if t254 = true then (if x.2.2.1 ≥ y.2.2.1 then (if x.2.2.2 ≥ y.2.2.2 then ((taliklaw04_known.f).bind fun t255 => (some t255)) else (some false)) else (some false)) else (some false))) else (some false))
theorem bal_l0 (L : S39) (x y : Heat4) (a2 : Int) (l3 : List S44) (j : Nat) (hj : j ≤ l3.length) (hlen : l3.length ≤ 100) : ∀ (m i c d k : Nat), i + m = l3.length → c ≤ 200 → d ≤ 200 → c + m ≤ 200 → d + m ≤ 200 → m + 1 ≤ k →
  taliklaw04_PipeBalance.l0 k a2 l3 (j : Int) 0 0 (c : Int) (d : Int) (i : Int) (L.f0.f0) (L.f0.f1) (L.f1.f0) (L.f1.f1) (L.f2.f0) (L.f2.f1) (L.f3) (L.f4) (L.f5) (L.f6) (L.f7.f0) (L.f7.f1) x.1 x.2.1 x.2.2.1 x.2.2.2 y.1 y.2.1 y.2.2.1 y.2.2.2 = balEnd L x y a2 ((c + fedN (l3.drop i) : Nat) : Int) ((d + fedN ((l3.take j).drop i) : Nat) : Int) := by
 intro m
 induction m with
 | zero =>
  intro i c d k hi hc hd hcm hdm hk
  obtain ⟨k, rfl⟩ : ∃ k', k = k' + 1 := ⟨k - 1, by omega⟩
  unfold taliklaw04_PipeBalance.l0
  rw [if_neg (by omega), if_pos rfl, if_pos rfl, show l3.drop i = [] from List.drop_eq_nil_of_le (by omega), show (l3.take j).drop i = [] from List.drop_eq_nil_of_le (by simp; omega)]
  rfl
 | succ m ih =>
  intro i c d k hi hc hd hcm hdm hk
  obtain ⟨k, rfl⟩ : ∃ k', k = k' + 1 := ⟨k - 1, by omega⟩
  have hil : i < l3.length := by omega
  have e : rd_T44 l3 (i : Int) = l3[i] := by simp [rd_T44, hil]
  unfold taliklaw04_PipeBalance.l0
  rw [if_pos (by omega), if_pos (by omega), e, wsucc i (by omega), wsucc c (by omega), wsucc d (by omega), List.drop_eq_getElem_cons hil]
  by_cases hji : i < j
  ·
   have hit : i < (l3.take j).length := by simp; omega
   rw [List.drop_eq_getElem_cons hit, show (l3.take j)[i] = l3[i] from by simp]
   simp only [fedN]
   by_cases hf : l3[i].f2 = true
   ·
    rw [if_pos hf, if_pos (by omega), ih (i + 1) (c + 1) (d + 1) k (by omega) (by omega) (by omega) (by omega) (by omega) (by omega), if_pos hf]
    simp only [Nat.add_assoc]
   ·
    rw [if_neg hf, ih (i + 1) c d k (by omega) (by omega) (by omega) (by omega) (by omega) (by omega), if_neg hf]
    simp only [Nat.zero_add]
  ·
   rw [show (l3.take j).drop i = [] from List.drop_eq_nil_of_le (by simp; omega)]
   simp only [fedN]
   have hn : (l3.take j).drop (i + 1) = [] := List.drop_eq_nil_of_le (by simp; omega)
   by_cases hf : l3[i].f2 = true
   ·
    rw [if_pos hf, if_neg (by omega), ih (i + 1) (c + 1) d k (by omega) (by omega) (by omega) (by omega) (by omega) (by omega), if_pos hf, hn]
    simp only [Nat.add_assoc, fedN]
   ·
    rw [if_neg hf, ih (i + 1) c d k (by omega) (by omega) (by omega) (by omega) (by omega) (by omega), if_neg hf, hn]
    simp only [Nat.zero_add, fedN]
theorem balance_true (q : Nat) (hq : 399 ≤ q) (l0 : List S39) (l1 : List S37) (l2 : List (List Int)) (a1 a2 : Int) (l3 : List S44) (a4 : Int) : taliklaw04_PipeBalance.f (q + 1) l0 l1 l2 a1 a2 l3 a4 = some true := by
 unfold taliklaw04_PipeBalance.f
 rw [short_eq l0 l1 l2 (q + 1) (by omega)]
 simp only [Option.bind_some]
 have hknown : taliklaw04_PipeBalance.j0 (q + 1) a1 a2 l3 a4 true l0 l1 l2 = some true := by
  rw [taliklaw04_PipeBalance.j0]
  rw [if_pos rfl, known_some]
  rfl
 cases hs : shortB l0 l1 l2 with
 | false =>
  rw [if_neg (by simp)]
  exact hknown
 | true =>
  rw [if_pos rfl]
  have hsh := short_of hs
  by_cases h1 : (l3.length : Int) > (l1.length : Int)
  ·
   rw [if_pos h1]
   exact hknown
  ·
   rw [if_neg h1, net_eq l0 l1 l2 hsh (q + 1) (by omega)]
   simp only [Option.bind_some]
   cases hv : validB l0 l1 l2 with
   | false =>
    rw [if_neg (by simp)]
    exact hknown
   | true =>
    rw [if_pos rfl, isloop_eq]
    simp only [Option.bind_some]
    cases hi : inB a1 0 (wrap64 ((l0.length : Int) - 1)) with
    | false =>
     rw [if_neg (by simp)]
     exact hknown
    | true =>
     have hn := net_ok hv
     have hn1 := hn.h1
     obtain ⟨i0, i1⟩ := (isloop_iff hn a1).1 hi
     have hL := hn.loops _ (rdT39_mem i0 i1)
     rw [if_pos rfl, if_pos i0, if_pos i1]
     by_cases c1 : a2 < (qah l0 a1).f0.f0
     ·
      rw [if_pos c1]
      exact hknown
     ·
      rw [if_neg c1]
      by_cases c2 : a2 > (qah l0 a1).f0.f1
      ·
       rw [if_pos c2]
       exact hknown
      ·
       rw [if_neg c2]
       have hA : inB a2 (qah l0 a1).f0.f0 (qah l0 a1).f0.f1 = true := by
        unfold inB
        simp
        omega
       have htr : talikref04_Truth.f l0 l1 l2 a1 l3 = some (truthB (qah l0 a1) l3 l1) := by
        unfold talikref04_Truth.f
        rw [if_pos ⟨i0, i1, by omega⟩]
       rw [htr]
       simp only [Option.bind_some]
       cases ht : truthB (qah l0 a1) l3 l1 with
       | false =>
        rw [if_neg (by simp)]
        exact hknown
       | true =>
        rw [if_pos rfl]
        by_cases c3 : a4 < 0
        ·
         rw [if_pos c3]
         exact hknown
        ·
         rw [if_neg c3]
         cases hd : decide (a4 > (l3.length : Int)) with
         | true => exact hknown
         | false =>
          have c4 : ¬ a4 > (l3.length : Int) := of_decide_eq_false hd
          have w0 := hL.w0
          have w2 := hL.w2
          have hx0 : HeatOk 0 (a2, 0, 0, 0) := ⟨by dsimp only; omega, by dsimp only; omega, by dsimp only; omega, by dsimp only; omega, by dsimp only; omega, by dsimp only; omega, by dsimp only; omega, by dsimp only; omega⟩
          obtain ⟨j, rfl⟩ := Int.eq_ofNat_of_zero_le (show (0 : Int) ≤ a4 by omega)
          have htl : (l3.take j).length ≤ l3.length := by simp; omega
          obtain ⟨hg, hxo⟩ := playGo_yes _ hL l3 l1 (a2, 0, 0, 0) 0 ht hn.frost (by omega) hx0
          obtain ⟨hg2, hyo⟩ := playGo_yes _ hL (l3.take j) l1 (a2, 0, 0, 0) 0 (truthB_take _ _ _ _ ht) hn.frost (by omega) hx0
          have hz : (a2, (0 : Int), (0 : Int), (0 : Int)).2.1 = (qah l0 a1).f4 * (qah l0 a1).f6 * ((0 : Nat) : Int) := by simp
          have hz2 : (qah l0 a1).f4 * a2 + (a2, (0 : Int), (0 : Int), (0 : Int)).2.1 = (qah l0 a1).f4 * (a2, (0 : Int), (0 : Int), (0 : Int)).1 + (a2, (0 : Int), (0 : Int), (0 : Int)).2.2.1 + (a2, (0 : Int), (0 : Int), (0 : Int)).2.2.2 := by simp
          obtain ⟨b1, b2, _, _⟩ := bal_go _ hL a2 l3 l1 (a2, 0, 0, 0) 0 0 ht hn.frost (by omega) hx0 hz hz2
          obtain ⟨d1, d2, _, _⟩ := bal_go _ hL a2 (l3.take j) l1 (a2, 0, 0, 0) 0 0 (truthB_take _ _ _ _ ht) hn.frost (by omega) hx0 hz hz2
          have hpv : pipe_Play.f l0 l1 l2 a1 a2 l3 = some (heatR (some (l3.foldl (fun x T => stepR (qah l0 a1) T x) (a2, 0, 0, 0)))) := by
           unfold pipe_Play.f playV
           rw [if_neg h1, hv, hi, hA, hg]
           rfl
          have hpv2 : pipe_Play.f l0 l1 l2 a1 a2 (l3.take j) = some (heatR (some ((l3.take j).foldl (fun x T => stepR (qah l0 a1) T x) (a2, 0, 0, 0)))) := by
           unfold pipe_Play.f playV
           rw [if_neg (by omega), hv, hi, hA, hg2]
           rfl
          have hmono : ((l3.take j).foldl (fun x T => stepR (qah l0 a1) T x) (a2, 0, 0, 0)).2.2.1 ≤ (l3.foldl (fun x T => stepR (qah l0 a1) T x) (a2, 0, 0, 0)).2.2.1 ∧ ((l3.take j).foldl (fun x T => stepR (qah l0 a1) T x) (a2, 0, 0, 0)).2.2.2 ≤ (l3.foldl (fun x T => stepR (qah l0 a1) T x) (a2, 0, 0, 0)).2.2.2 := by
           have hsplit : l3.foldl (fun x T => stepR (qah l0 a1) T x) (a2, 0, 0, 0) = (l3.drop j).foldl (fun x T => stepR (qah l0 a1) T x) ((l3.take j).foldl (fun x T => stepR (qah l0 a1) T x) (a2, 0, 0, 0)) := by
            rw [← List.foldl_append, List.take_append_drop]
           have hdr : truthB (qah l0 a1) (l3.drop j) (l1.drop j) = true := truthB_drop _ _ _ _ ht
           rw [hsplit]
           exact (bal_go _ hL a2 (l3.drop j) (l1.drop j) _ (0 + (l3.take j).length) _ hdr (fun F hF => hn.frost F (List.mem_of_mem_drop hF)) (by simp; omega) hyo d1 d2).2.2
          rw [taliklaw04_PipeBalance.j0]
          rw [if_neg (by decide), if_pos i0, if_pos i1, hpv]
          simp only [Option.bind_some]
          rw [if_pos (by omega), if_pos (by omega), Int.toNat_natCast, hpv2]
          simp only [Option.bind_some, heatR]
          have hl := bal_l0 (qah l0 a1) (l3.foldl (fun x T => stepR (qah l0 a1) T x) (a2, 0, 0, 0)) ((l3.take j).foldl (fun x T => stepR (qah l0 a1) T x) (a2, 0, 0, 0)) a2 l3 j (by omega) (by omega) l3.length 0 0 0 q (by omega) (by omega) (by omega) (by omega) (by omega) (by omega)
          refine Eq.trans hl ?_
          have f1 := fedN_le l3
          have f2 := fedN_le (l3.take j)
          have s1 := sane_true hL (n := 0 + l3.length) (m := 0 + fedN (l3.drop 0)) (by omega) (by simp; omega) hxo (by omega) (by omega) b1 b2
          have s2 := sane_true hL (n := 0 + (l3.take j).length) (m := 0 + fedN ((l3.take j).drop 0)) (by omega) (by simp only [List.drop_zero]; omega) hyo (by omega) (by omega) d1 d2
          unfold balEnd
          rw [s1]
          simp only [Option.bind_some, if_true]
          rw [s2]
          simp only [Option.bind_some, if_true]
          rw [if_pos hmono.1, if_pos hmono.2, known_some]
          rfl
end Go.Proofs.Ytipphcjgdebecaa.PA
namespace Go.Proofs.Ytipphcjgdebecaa.PA
open Go.RowKit Go.Shelf Go.Proofs.YtipphcjgdebecaaW.PrintWords Go.Proofs.YtipphcjgdebecaaW.PrintLast Go.Proofs.YtipphcjgdebecaaW.PrintMore
attribute [local go_sem] max2_int min2_int max_two min_two max_three min_three max_four min_four
def Opens {α : Type} (d : Kd α) (t : TypeId) : Prop := ∀ (H : Type) (enc : TypeId × Value → H) (w : World) (base fuel : Nat) (cs : List Value) (x : DataW H × List MemPlace), DataW.trod enc Try.prog w base (fun _ => true) true fuel t cs = some x → ∃ v, d.K w v cs
theorem opens_int : Opens (Kd.int .i64) 3 := by
 intro H enc w base fuel cs x h
 obtain ⟨n, rfl, _, _⟩ := DataW.trod_int Try.underlying3 h
 exact ⟨n, rfl⟩
theorem opens_bool : Opens Kd.bool 4 := by
 intro H enc w base fuel cs x h
 obtain ⟨n, rfl, _⟩ := DataW.trod_bool Try.underlying4 h
 exact ⟨n, rfl⟩
theorem cell_of_cells {w : World} {base n : Nat} {a : Addr} {cs : List Value} (h : w.cells? base a n = some cs) : cs.length = n ∧ ∀ i u, cs[i]? = some u → w.cell? (a.add i) = some u := by
 unfold World.cells? at h
 split at h
 ·
  refine ⟨by simpa using mapM_some_length h, fun i u hu => ?_⟩
  have hi : i < n := by
   have h1 := mapM_some_length h
   have h2 := (List.getElem?_eq_some_iff.1 hu).1
   simp at h1
   omega
  have h3 := mapM_some_get h i i (by simp [hi])
  rw [h3]
  exact hu
 ·
  cases h
theorem opens_slice {α : Type} {d : Kd α} {t e : TypeId} (z : α) (ht : Try.prog.underlying t = some (.slice e)) (hz : Try.prog.cellsOf e = d.sz) (hd : Opens d e) : Opens (Kd.slice e d) t := by
 intro H enc w base fuel cs x h
 rcases Deep.open_slice ht h with ⟨rfl, _⟩ | ⟨a, len, cap, m, n, D, Pl, rfl, hb, hl, hm, hmm, _, hel⟩
 ·
  exact ⟨[], none, 0, rfl, Nat.le_refl _, rfl, by simp, fun h => absurd h (by simp)⟩
 ·
  simp only [if_true] at hmm
  subst hmm
  haveI : Inhabited (α × List Value) := ⟨(z, [])⟩
  obtain ⟨F, hF⟩ : ∃ F : Nat → α × List Value, ∀ i, i < len → w.cells? base (a.add (i * Try.prog.cellsOf e)) (Try.prog.cellsOf e) = some (F i).2 ∧ d.K w (F i).1 (F i).2 := by
   have hx : ∀ i, i < len → ∃ q : α × List Value, w.cells? base (a.add (i * Try.prog.cellsOf e)) (Try.prog.cellsOf e) = some q.2 ∧ d.K w q.1 q.2 := fun i hi => by
    obtain ⟨cs', h1, h2⟩ := hel i (by omega)
    obtain ⟨v, hv⟩ := hd H enc w base n cs' _ h2
    exact ⟨(v, cs'), h1, hv⟩
   exact Deep.choose_lt hx
  have hlen : ((List.range len).map fun i => (F i).1).length = len := by simp
  refine ⟨(List.range len).map fun i => (F i).1, some a, m, by rw [hlen], by rw [hlen]; exact hl, rfl, ?_, fun _ => ⟨a, rfl, fun j p hj => ?_⟩⟩
  ·
   rw [hlen]
   have : maxLen ≤ 9223372036854775807 := by decide
   omega
  ·
   obtain ⟨hj1, hj2⟩ := List.getElem?_eq_some_iff.1 hj
   have hjl : j < len := by simpa using hj1
   have hp : p = (F j).1 := by simpa using hj2.symm
   subst hp
   obtain ⟨h1, h2⟩ := hF j hjl
   refine ⟨(F j).2, d.K_len h2, h2, fun i u hu => ?_⟩
   have h3 := (cell_of_cells h1).2 i u hu
   rw [Deep.add_add, hz] at h3
   exact h3
theorem K_pair {α β : Type} {a : Kd α} {b : Kd β} {w : World} {cs : List Value} {o : Nat} {x : α} {y : β} (h1 : a.K w x ((cs.drop o).take a.sz)) (h2 : b.K w y (cs.drop (o + a.sz))) : (Kd.pair a b).K w (x, y) (cs.drop o) :=
 ⟨_, _, by have h := (List.take_append_drop a.sz (cs.drop o)).symm; rwa [List.drop_drop] at h, h1, h2⟩
theorem K_last {α : Type} {a : Kd α} {w : World} {cs : List Value} {o : Nat} {x : α} (h1 : a.K w x ((cs.drop o).take a.sz)) (hl : cs.length = o + a.sz) : a.K w x (cs.drop o) := by
 rwa [List.take_of_length_le (by simp; omega)] at h1
theorem field_of {α : Type} {d : Kd α} {t : TypeId} (hd : Opens d t) (hz : Try.prog.cellsOf t = d.sz) {H : Type} {enc : TypeId × Value → H} {w : World} {base n o : Nat} {cs : List Value} {xs : List (DataW H × List MemPlace)} {i : Nat} (hi : i < xs.length)
  (h : DataW.trod enc Try.prog w base (fun _ => true) true n t ((cs.drop o).take (Try.prog.cellsOf t)) = xs[i]?) : ∃ v, d.K w v ((cs.drop o).take d.sz) := by
 rw [hz, List.getElem?_eq_getElem hi] at h
 exact hd H enc w base n _ _ h
theorem opens_37 : Opens k37 37 := by
 intro H enc w base fuel cs x h
 obtain ⟨xs, n, rfl, rfl, hl, hxl, hf⟩ := DataW.trod_struct Try.underlying37 h
 have hl' : cs.length = 2 := hl.trans (by kernel_rfl)
 have hx : xs.length = 2 := hxl
 obtain ⟨v0, e0⟩ := field_of opens_int (by kernel_rfl) (i := 0) (by omega) (hf 0 _ rfl)
 obtain ⟨v1, e1⟩ := field_of opens_int (by kernel_rfl) (i := 1) (by omega) (hf 1 _ rfl)
 exact ⟨⟨v0, v1⟩, K_pair (o := 0) e0 (K_last (o := 0 + 1) e1 hl')⟩
theorem opens_44 : Opens k44 44 := by
 intro H enc w base fuel cs x h
 obtain ⟨xs, n, rfl, rfl, hl, hxl, hf⟩ := DataW.trod_struct Try.underlying44 h
 have hl' : cs.length = 3 := hl.trans (by kernel_rfl)
 have hx : xs.length = 3 := hxl
 obtain ⟨v0, e0⟩ := field_of opens_int (by kernel_rfl) (i := 0) (by omega) (hf 0 _ rfl)
 obtain ⟨v1, e1⟩ := field_of opens_int (by kernel_rfl) (i := 1) (by omega) (hf 1 _ rfl)
 obtain ⟨v2, e2⟩ := field_of opens_bool (by kernel_rfl) (i := 2) (by omega) (hf 2 _ rfl)
 exact ⟨⟨v0, v1, v2⟩, K_pair (o := 0) e0 (K_pair (o := 0 + 1) e1 (K_last (o := 0 + 1 + 1) e2 hl'))⟩
theorem opens_39 : Opens k39 39 := by
 intro H enc w base fuel cs x h
 obtain ⟨xs, n, rfl, rfl, hl, hxl, hf⟩ := DataW.trod_struct Try.underlying39 h
 have hl' : cs.length = 12 := hl.trans (by kernel_rfl)
 have hx : xs.length = 8 := hxl
 obtain ⟨v0, e0⟩ := field_of opens_37 (by kernel_rfl) (i := 0) (by omega) (hf 0 _ rfl)
 obtain ⟨v1, e1⟩ := field_of opens_37 (by kernel_rfl) (i := 1) (by omega) (hf 1 _ rfl)
 obtain ⟨v2, e2⟩ := field_of opens_37 (by kernel_rfl) (i := 2) (by omega) (hf 2 _ rfl)
 obtain ⟨v3, e3⟩ := field_of opens_int (by kernel_rfl) (i := 3) (by omega) (hf 3 _ rfl)
 obtain ⟨v4, e4⟩ := field_of opens_int (by kernel_rfl) (i := 4) (by omega) (hf 4 _ rfl)
 obtain ⟨v5, e5⟩ := field_of opens_int (by kernel_rfl) (i := 5) (by omega) (hf 5 _ rfl)
 obtain ⟨v6, e6⟩ := field_of opens_int (by kernel_rfl) (i := 6) (by omega) (hf 6 _ rfl)
 obtain ⟨v7, e7⟩ := field_of opens_37 (by kernel_rfl) (i := 7) (by omega) (hf 7 _ rfl)
 exact ⟨⟨v0, v1, v2, v3, v4, v5, v6, v7⟩, K_pair (o := 0) e0 (K_pair (o := 0 + 2) e1 (K_pair (o := 0 + 2 + 2) e2 (K_pair (o := 0 + 2 + 2 + 2) e3 (K_pair (o := 0 + 2 + 2 + 2 + 1) e4 (K_pair (o := 0 + 2 + 2 + 2 + 1 + 1) e5 (K_pair (o := 0 + 2 + 2 + 2 + 1 + 1 + 1) e6 (K_last (o := 0 + 2 + 2 + 2 + 1 + 1 + 1 + 1) e7 hl')))))))⟩
theorem opens_22 : Opens (Kd.slice 39 k39) 22 := opens_slice z39 Try.underlying22 (by kernel_rfl) opens_39
theorem opens_23 : Opens (Kd.slice 37 k37) 23 := opens_slice z37 Try.underlying23 (by kernel_rfl) opens_37
theorem opens_27 : Opens (Kd.slice 44 k44) 27 := opens_slice z44 Try.underlying27 (by kernel_rfl) opens_44
theorem opens_47 : Opens (Kd.slice 3 (Kd.int .i64)) 47 := opens_slice 0 Try.underlying47 (by kernel_rfl) opens_int
theorem opens_24 : Opens (Kd.slice 47 (Kd.slice 3 (Kd.int .i64))) 24 := opens_slice [] Try.underlying24 (by kernel_rfl) opens_47
set_option maxRecDepth 100000 in
theorem open_net {H : Type} {enc : TypeId × Value → H} {w : World} {b0 : Nat} {v : Value} {d : DataW H} {p : List MemPlace} (hv : Value.okWide Try.prog w .any b0 26 v) (h : DataW.Trod enc Try.prog w 0 (fun _ => true) true 26 v d p) :
  ∃ (A0 : Option Addr) (c0 : Nat) (l0 : List S39) (A1 : Option Addr) (c1 : Nat) (l1 : List S37) (A2 : Option Addr) (c2 : Nat) (l2 : List (List Int)), v = .agg #[.slice A0 l0.length c0, .slice A1 l1.length c1, .slice A2 l2.length c2] ∧
   Kd.C k39 w A0 l0.length l0 ∧ l0.length ≤ c0 ∧ Kd.C k37 w A1 l1.length l1 ∧ l1.length ≤ c1 ∧ Kd.C (Kd.slice 3 (Kd.int .i64)) w A2 l2.length l2 ∧ l2.length ≤ c2 := by
 obtain ⟨v0, v1, v2, y0, y1, y2, n, rfl, _, _, h0, h1, h2⟩ := Joins.open_agg3 Try.underlying26 (by kernel_rfl) (by kernel_rfl) hv h
 obtain ⟨l0, A0, c0, e0, f0, g0⟩ := opens_22 H enc w 0 n _ _ h0
 obtain ⟨l1, A1, c1, e1, f1, g1⟩ := opens_23 H enc w 0 n _ _ h1
 obtain ⟨l2, A2, c2, e2, f2, g2⟩ := opens_24 H enc w 0 n _ _ h2
 injection e0 with e0 _
 injection e1 with e1 _
 injection e2 with e2 _
 subst e0 e1 e2
 exact ⟨A0, c0, l0, A1, c1, l1, A2, c2, l2, rfl, g0, f0, g1, f1, g2, f2⟩
set_option maxRecDepth 100000 in
theorem open_truth {H : Type} {enc : TypeId × Value → H} {w : World} {b0 : Nat} {v : Value} {d : DataW H} {p : List MemPlace} (hv : Value.okWide Try.prog w .any b0 27 v) (h : DataW.Trod enc Try.prog w 0 (fun _ => true) true 27 v d p) :
  ∃ (A : Option Addr) (c : Nat) (l : List S44), v = .slice A l.length c ∧ Kd.C k44 w A l.length l ∧ l.length ≤ c := by
 obtain ⟨a, len, cap, rfl⟩ := WideShapes.okWide_slice Try.underlying27 hv
 obtain ⟨n, hn⟩ := h
 obtain ⟨l, A, c, e, f, g⟩ := opens_27 H enc w 0 n _ _ hn
 simp [Value.cells] at e
 obtain ⟨rfl, rfl, rfl⟩ := e
 exact ⟨_, _, l, rfl, g, f⟩
end Go.Proofs.Ytipphcjgdebecaa.PA
