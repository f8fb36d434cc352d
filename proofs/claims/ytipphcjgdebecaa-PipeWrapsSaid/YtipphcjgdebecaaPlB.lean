/- What functions of the program answer. No condition. -/
import Derived.RangeFuncNested
import Derived.RangeFuncBound
import Derived.RangeFuncCalls
import Derived.RangeFuncLeaves
import Derived.RangeFuncBox
import Derived.Shelf.Abstract
import Derived.Shelf.RegionOpen
import Derived.OwnWalkIn
import Derived.TacticsInMore
import Derived.LoopNIn
import Derived.LoopIn
import Derived.Recover
import Derived.Defers
import Derived.WalkLawsBesides
import Derived.WalkSmall
import Derived.Test.YtipphcjgdebecaaSC
import Derived.Test.YtipphcjgdebecaaSE
import Derived.Test.YtipphcjgdebecaaSF
import Derived.Test.YtipphcjgdebecaaPlA
import Derived.Test.YtipphcjgdebecaaSL
set_option linter.all false
set_option maxRecDepth 100000
set_option maxHeartbeats 8000000
namespace Go.Proofs.Ytipphcjgdebecaa.PA
open Go.RowKit Go.Shelf Go.Proofs.YtipphcjgdebecaaW.PrintWords Go.Proofs.YtipphcjgdebecaaW.PrintLast Go.Proofs.YtipphcjgdebecaaW.PrintMore
attribute [local go_sem] qaw qay max_two min_two qas qat qax qaz
structure G1Ok (of : Int → Int × Bool) (l : List Int) (a : Int × Int × Bool) : Prop where
 no : a.2.2 = false → ∀ x ∈ l, (of x).2 = false
 mem : a.2.2 = true → a.1 ∈ l ∧ of a.1 = (a.2.1, true)
 max : a.2.2 = true → ∀ x ∈ l, (of x).2 = true → (of x).1 ≤ a.2.1
 first : a.2.2 = true → ∀ x ∈ l, of x = (a.2.1, true) → a.1 ≤ x
theorem g1_step (of : Int → Int × Bool) (l : List Int) (a : Int × Int × Bool) (h : G1Ok of l a) (x : Int) (hx : ∀ y ∈ l, y < x) : G1Ok of (l ++ [x]) (g1s of a x) := by
 unfold g1s
 by_cases hc : (of x).2 = true ∧ (a.2.2 = false ∨ (of x).1 > a.2.1)
 ·
  rw [if_pos hc]
  obtain ⟨h1, h2⟩ := hc
  refine ⟨fun h => by simp at h, fun _ => ⟨by simp, by rw [← h1]⟩, fun _ y hy ht => ?_, fun _ y hy he => ?_⟩
  ·
   rcases List.mem_append.1 hy with hy | hy
   ·
    rcases h2 with h2 | h2
    ·
     rw [h.no h2 y hy] at ht
     cases ht
    ·
     cases ha : a.2.2 with
     | false => rw [h.no ha y hy] at ht; cases ht
     | true => have := h.max ha y hy ht; show (of y).1 ≤ (of x).1; omega
   ·
    obtain rfl : y = x := by simpa using hy
    exact Int.le_refl _
  ·
   rcases List.mem_append.1 hy with hy | hy
   ·
    have hyt : (of y).2 = true := by rw [he]
    have hyv : (of y).1 = (of x).1 := by rw [he]
    rcases h2 with h2 | h2
    ·
     rw [h.no h2 y hy] at hyt
     cases hyt
    ·
     cases ha : a.2.2 with
     | false => rw [h.no ha y hy] at hyt; cases hyt
     | true => have := h.max ha y hy hyt; omega
   ·
    obtain rfl : y = x := by simpa using hy
    exact Int.le_refl _
 ·
  rw [if_neg hc]
  refine ⟨fun ha y hy => ?_, fun ha => ⟨by simp [(h.mem ha).1], (h.mem ha).2⟩, fun ha y hy ht => ?_, fun ha y hy he => ?_⟩
  ·
   rcases List.mem_append.1 hy with hy | hy
   ·
    exact h.no ha y hy
   ·
    obtain rfl : y = x := by simpa using hy
    cases ho : (of y).2 with
    | false => rfl
    | true => exact absurd ⟨ho, .inl ha⟩ hc
  ·
   rcases List.mem_append.1 hy with hy | hy
   ·
    exact h.max ha y hy ht
   ·
    obtain rfl : y = x := by simpa using hy
    by_cases hgt : (of y).1 > a.2.1
    ·
     exact absurd ⟨ht, .inr hgt⟩ hc
    ·
     omega
  ·
   rcases List.mem_append.1 hy with hy | hy
   ·
    exact h.first ha y hy he
   ·
    obtain rfl : y = x := by simpa using hy
    have := hx _ (h.mem ha).1
    omega
theorem g1_ok (of : Int → Int × Bool) (l : List Int) (hl : l.Pairwise (· < ·)) : G1Ok of l (g1 of l) := by
 have key : ∀ (m p : List Int) (a : Int × Int × Bool), G1Ok of p a → (p ++ m).Pairwise (· < ·) → G1Ok of (p ++ m) (m.foldl (g1s of) a) := by
  intro m
  induction m with
  | nil => intro p a h _; simpa using h
  | cons x m ih =>
   intro p a h hp
   have hp' : ((p ++ [x]) ++ m).Pairwise (· < ·) := by simpa using hp
   have hx : ∀ y ∈ p, y < x := fun y hy => (List.pairwise_append.1 hp).2.2 y hy x (by simp)
   have := ih (p ++ [x]) _ (g1_step of p a h x hx) hp'
   simpa using this
 exact key l [] (0, 0, false) ⟨fun _ x hx => (by simp at hx), fun h => (by simp at h), fun h => (by simp at h), fun h => (by simp at h)⟩ (by simpa using hl)
theorem sorted_loopsOf (f : Int) (n : Nat) : (qar f n).Pairwise (· < ·) := by
 induction n with
 | zero => simp [qar]
 | succ n ih =>
  unfold qar
  split
  ·
   rw [List.pairwise_append]
   refine ⟨ih, by simp, fun x hx y hy => ?_⟩
   obtain ⟨k, rfl, hk, _⟩ := (mem_loopsOf f n x).1 hx
   obtain rfl : y = (n : Int) := by simpa using hy
   omega
  ·
   exact ih
def sl (l0 : List S39) (l2 : List (List Int)) (D : List Int) (N : Int) : Int → Int → List Int → Int
 | _, _, [] => N
 | p, h, i :: t => min (rd D i - (h + rd (rd_L1 l2 p) (i + 1) + (qal l0 i).f7.f1)) (sl l0 l2 D N (i + 1) (h + rd (rd_L1 l2 p) (i + 1) + (qal l0 i).f7.f1) t)
def lexLe : List Int → List Int → Prop
 | [], _ => True
 | _ :: _, [] => False
 | i :: t, j :: u => i < j ∨ (i = j ∧ lexLe t u)
section
variable {l0 : List S39} {l1 : List S37} {l2 : List (List Int)} {D : List Int}
structure BOk (l0 : List S39) (l1 : List S37) (l2 : List (List Int)) (D : List Int) : Prop where
 ways : ∀ p i : Int, 0 ≤ p → p ≤ l0.length → 0 ≤ i → i < l0.length → 0 ≤ rd (rd_L1 l2 p) (i + 1) ∧ rd (rd_L1 l2 p) (i + 1) ≤ 72
 fix : ∀ i : Int, 0 ≤ i → i < l0.length → 0 ≤ (qal l0 i).f7.f1 ∧ (qal l0 i).f7.f1 ≤ 72
 due : ∀ i : Int, 0 ≤ i → i < l0.length → 0 ≤ rd D i ∧ rd D i ≤ l1.length
 len : 1 ≤ l1.length ∧ l1.length ≤ 72
structure SOk (l0 : List S39) (s : Sp) : Prop where
 ok : OkS s
 p0 : 0 ≤ s.p
 p1 : s.p ≤ l0.length
 h0 : 0 ≤ s.h
 h1 : s.h ≤ 72
 lo : ∀ i ∈ qar s.r 5, 0 ≤ i ∧ i < l0.length
theorem hour_eq (hB : BOk l0 l1 l2 D) {s : Sp} (hs : SOk l0 s) {i : Int} (hi : i ∈ qar s.r 5) : hourV l0 l2 s i = s.h + rd (rd_L1 l2 s.p) (i + 1) + (qal l0 i).f7.f1 := by
 obtain ⟨i0, i1⟩ := hs.lo i hi
 have h1 := hB.ways s.p i hs.p0 hs.p1 i0 i1
 have h2 := hB.fix i i0 i1
 have h3 := hs.h0
 have h4 := hs.h1
 unfold hourV
 rw [wrap_id (x := s.h + rd (rd_L1 l2 s.p) (i + 1)) (by omega) (by omega), wrap_id (by omega) (by omega)]
theorem rep_eq (hB : BOk l0 l1 l2 D) {s : Sp} (hs : SOk l0 s) {i : Int} (hi : i ∈ qar s.r 5) :
  (repV l0 l2 D s i).2.2 = decide (s.h + rd (rd_L1 l2 s.p) (i + 1) + (qal l0 i).f7.f1 ≤ rd D i) ∧
  ((repV l0 l2 D s i).2.2 = true → (repV l0 l2 D s i).2.1 = rd D i - (s.h + rd (rd_L1 l2 s.p) (i + 1) + (qal l0 i).f7.f1) ∧ (repV l0 l2 D s i).1.p = i + 1 ∧ (repV l0 l2 D s i).1.h = s.h + rd (rd_L1 l2 s.p) (i + 1) + (qal l0 i).f7.f1 ∧
   qar (repV l0 l2 D s i).1.r 5 = (qar s.r 5).erase i ∧ SOk l0 (repV l0 l2 D s i).1 ∧ cntB (repV l0 l2 D s i).1.r + 1 = cntB s.r) := by
 obtain ⟨i0, i1⟩ := hs.lo i hi
 have h1 := hB.ways s.p i hs.p0 hs.p1 i0 i1
 have h2 := hB.fix i i0 i1
 have h3 := hs.h0
 have h4 := hs.h1
 have h5 := hB.due i i0 i1
 have h6 := hB.len
 have hh := hour_eq hB hs hi
 have hrest := rest_of s.r hs.ok.1 hs.ok.2 i hi
 have hers := (nodup_loopsOf s.r 5).erase_eq_filter i
 by_cases hc : hourV l0 l2 s i > rd D i
 ·
  have hd : decide (s.h + rd (rd_L1 l2 s.p) (i + 1) + (qal l0 i).f7.f1 ≤ rd D i) = false := decide_eq_false (by omega)
  have e : repV l0 l2 D s i = (⟨0, 0, 0⟩, 0, false) := by unfold repV; rw [if_pos hc]
  rw [e, hd]
  exact ⟨rfl, fun h => by cases h⟩
 ·
  have hd : decide (s.h + rd (rd_L1 l2 s.p) (i + 1) + (qal l0 i).f7.f1 ≤ rd D i) = true := decide_eq_true (by omega)
  have e : repV l0 l2 D s i = (nextV l0 l2 s i, wrap64 (rd D i - hourV l0 l2 s i), true) := by unfold repV; rw [if_neg hc]
  have hn := next_ok l0 l2 D s hs.ok i hi (by rw [e])
  rw [e, hd]
  rw [e] at hn
  refine ⟨rfl, fun _ => ⟨?_, rfl, hh, ?_, ⟨hn.1, ?_, ?_, ?_, ?_, ?_⟩, hn.2⟩⟩
  ·
   show wrap64 (rd D i - hourV l0 l2 s i) = _
   rw [hh, wrap_id (by omega) (by omega)]
  ·
   show qar (bits .andNot .i64 s.r (wrap64 (2 ^ i.toNat))) 5 = _
   rw [hrest.2.2, hers]
  ·
   show 0 ≤ i + 1
   omega
  ·
   show i + 1 ≤ (l0.length : Int)
   omega
  ·
   show 0 ≤ hourV l0 l2 s i
   omega
  ·
   show hourV l0 l2 s i ≤ 72
   omega
  ·
   intro j hj
   have hj' : j ∈ qar (bits .andNot .i64 s.r (wrap64 (2 ^ i.toNat))) 5 := hj
   rw [hrest.2.2] at hj'
   exact hs.lo j (List.mem_filter.1 hj').1
theorem zero_of (r : Int) (h0 : 0 ≤ r) (h1 : r < 32) (hl : qar r 5 = []) : r = 0 := by
 obtain ⟨n, rfl⟩ := Int.eq_ofNat_of_zero_le h0
 have hb := List.all_eq_true.1 bits_zero n (by simp; omega)
 simp only [hl, decide_true] at hb
 have hb2 := eq_of_beq hb
 exact of_decide_eq_true hb2
theorem nil_of_zero {s : Sp} (hs : OkS s) (h : s.r = 0) : qar s.r 5 = [] := by
 rw [h]
 decide
theorem best_ok (hB : BOk l0 l1 l2 D) : ∀ (c : Nat) (s : Sp), SOk l0 s → cntB s.r ≤ c →
  ((bestV l0 l1 l2 D s).2.2 = true → 0 ≤ (bestV l0 l1 l2 D s).2.1 ∧ (bestV l0 l1 l2 D s).2.1 ≤ l1.length ∧ (∃ o, o.Perm (qar s.r 5) ∧ sl l0 l2 D l1.length s.p s.h o = (bestV l0 l1 l2 D s).2.1) ∧ ∀ o, o.Perm (qar s.r 5) → sl l0 l2 D l1.length s.p s.h o ≤ (bestV l0 l1 l2 D s).2.1) ∧
  ((bestV l0 l1 l2 D s).2.2 = false → ∀ o, o.Perm (qar s.r 5) → sl l0 l2 D l1.length s.p s.h o < 0) := by
 have base : ∀ s : Sp, SOk l0 s → s.r = 0 → ((bestV l0 l1 l2 D s).2.2 = true → 0 ≤ (bestV l0 l1 l2 D s).2.1 ∧ (bestV l0 l1 l2 D s).2.1 ≤ l1.length ∧ (∃ o, o.Perm (qar s.r 5) ∧ sl l0 l2 D l1.length s.p s.h o = (bestV l0 l1 l2 D s).2.1) ∧ ∀ o, o.Perm (qar s.r 5) → sl l0 l2 D l1.length s.p s.h o ≤ (bestV l0 l1 l2 D s).2.1) ∧
   ((bestV l0 l1 l2 D s).2.2 = false → ∀ o, o.Perm (qar s.r 5) → sl l0 l2 D l1.length s.p s.h o < 0) := by
  intro s hs h0
  have hb : bestV l0 l1 l2 D s = ([], (l1.length : Int), true) := by
   rw [bestV_eq l0 l1 l2 D s hs.ok]
   unfold stepV
   rw [if_pos h0]
  have hl := nil_of_zero hs.ok h0
  rw [hb, hl]
  refine ⟨fun _ => ⟨by have := hB.len; show (0 : Int) ≤ l1.length; omega, Int.le_refl _, ⟨[], List.Perm.refl _, rfl⟩, fun o ho => ?_⟩, fun h => by simp at h⟩
  obtain rfl := List.perm_nil.1 ho
  exact Int.le_refl _
 intro c
 induction c with
 | zero =>
  intro s hs hc
  refine base s hs ?_
  have hl : qar s.r 5 = [] := List.length_eq_zero_iff.1 (by unfold cntB at hc; omega)
  exact (zero_of s.r hs.ok.1 hs.ok.2 hl)
 | succ c ih =>
  intro s hs hc
  by_cases h0 : s.r = 0
  ·
   exact base s hs h0
  ·
   have hbv : bestV l0 l1 l2 D s = stepV l0 l1 l2 D (bestV l0 l1 l2 D) s := bestV_eq l0 l1 l2 D s hs.ok
   have hb1 : (bestV l0 l1 l2 D s).2.1 = (g1 (ofV l0 l2 D (bestV l0 l1 l2 D) s) (qar s.r 5)).2.1 := by
    rw [hbv]
    unfold stepV
    rw [if_neg h0]
   have hb2 : (bestV l0 l1 l2 D s).2.2 = (g1 (ofV l0 l2 D (bestV l0 l1 l2 D) s) (qar s.r 5)).2.2 := by
    rw [hbv]
    unfold stepV
    rw [if_neg h0]
   have hg := g1_ok (ofV l0 l2 D (bestV l0 l1 l2 D) s) _ (sorted_loopsOf s.r 5)
   have hord : ∀ i t, (i :: t).Perm (qar s.r 5) → 0 ≤ sl l0 l2 D l1.length s.p s.h (i :: t) → (ofV l0 l2 D (bestV l0 l1 l2 D) s i).2 = true ∧ sl l0 l2 D l1.length s.p s.h (i :: t) ≤ (ofV l0 l2 D (bestV l0 l1 l2 D) s i).1 := by
    intro i t hp hsl
    obtain ⟨hi, ht⟩ := List.cons_perm_iff_perm_erase.1 hp
    obtain ⟨r1, r2⟩ := rep_eq hB hs hi
    simp only [sl] at hsl ⊢
    have hown : s.h + rd (rd_L1 l2 s.p) (i + 1) + (qal l0 i).f7.f1 ≤ rd D i := by omega
    have hr : (repV l0 l2 D s i).2.2 = true := by rw [r1]; exact decide_eq_true hown
    obtain ⟨e1, e2, e3, e4, e5, e6⟩ := r2 hr
    obtain ⟨ihA, ihB⟩ := ih (repV l0 l2 D s i).1 e5 (by omega)
    rw [e2, e3, e4] at ihA ihB
    unfold ofV
    rw [if_pos hr, e1]
    cases hn : (bestV l0 l1 l2 D (repV l0 l2 D s i).1).2.2 with
    | false =>
     have := ihB hn t ht
     omega
    | true =>
     have := (ihA hn).2.2.2 t ht
     refine ⟨rfl, ?_⟩
     show min _ _ ≤ min _ _
     omega
   rw [hb1, hb2]
   refine ⟨fun ht => ?_, fun hf o ho => ?_⟩
   ·
    obtain ⟨hm, he⟩ := hg.mem ht
    have hmax := hg.max ht
    obtain ⟨X, hX⟩ : ∃ X, (g1 (ofV l0 l2 D (bestV l0 l1 l2 D) s) (qar s.r 5)).1 = X := ⟨_, rfl⟩
    obtain ⟨V, hV⟩ : ∃ V, (g1 (ofV l0 l2 D (bestV l0 l1 l2 D) s) (qar s.r 5)).2.1 = V := ⟨_, rfl⟩
    rw [hX] at hm he
    rw [hV] at he hmax ⊢
    obtain ⟨r1, r2⟩ := rep_eq hB hs hm
    unfold ofV at he
    by_cases hr : (repV l0 l2 D s X).2.2 = true
    ·
     rw [if_pos hr] at he
     obtain ⟨e1, e2, e3, e4, e5, e6⟩ := r2 hr
     obtain ⟨ihA, ihB⟩ := ih _ e5 (by omega)
     rw [e2, e3, e4] at ihA
     have hn : (bestV l0 l1 l2 D (repV l0 l2 D s X).1).2.2 = true := (Prod.mk.inj he).2
     obtain ⟨a1, a2, ⟨o, ho, hso⟩, _⟩ := ihA hn
     have hv := (Prod.mk.inj he).1
     have hdec := r1.symm.trans hr
     have hle := of_decide_eq_true hdec
     rw [e1] at hv
     refine ⟨by omega, by omega, ⟨X :: o, List.cons_perm_iff_perm_erase.2 ⟨hm, ho⟩, ?_⟩, fun o' ho' => ?_⟩
     ·
      simp only [sl]
      rw [hso]
      exact hv
     ·
      cases o' with
      | nil =>
       have := List.nil_perm.1 ho'
       rw [this] at hm
       simp at hm
      | cons i t =>
       by_cases hneg : 0 ≤ sl l0 l2 D l1.length s.p s.h (i :: t)
       ·
        obtain ⟨q1, q2⟩ := hord i t ho' hneg
        have := hmax i ((List.Perm.mem_iff ho').1 (by simp)) q1
        omega
       ·
        omega
    ·
     rw [if_neg hr] at he
     exact absurd (Prod.mk.inj he).2 (by decide)
   ·
    cases o with
    | nil =>
     have h1 := List.nil_perm.1 ho
     exact absurd (zero_of s.r hs.ok.1 hs.ok.2 h1) h0
    | cons i t =>
     by_cases hneg : 0 ≤ sl l0 l2 D l1.length s.p s.h (i :: t)
     ·
      obtain ⟨q1, _⟩ := hord i t ho hneg
      rw [hg.no hf i ((List.Perm.mem_iff ho).1 (by simp))] at q1
      cases q1
     ·
      omega
theorem find_first {p : Int → Bool} : ∀ {l : List Int} {i : Int}, l.Pairwise (· < ·) → l.find? p = some i → i ∈ l ∧ p i = true ∧ ∀ j ∈ l, p j = true → i ≤ j
 | [], i, _, h => by simp at h
 | x :: l, i, hl, h => by
  obtain ⟨h1, h2⟩ := List.pairwise_cons.1 hl
  rw [List.find?_cons] at h
  cases hx : p x with
  | true =>
   rw [hx] at h
   obtain rfl : x = i := Option.some.inj h
   refine ⟨by simp, hx, fun j hj hp => ?_⟩
   rcases List.mem_cons.1 hj with rfl | hj
   ·
    exact Int.le_refl _
   ·
    have := h1 j hj
    omega
  | false =>
   rw [hx] at h
   obtain ⟨a, b, c⟩ := find_first h2 h
   refine ⟨by simp [a], b, fun j hj hp => ?_⟩
   rcases List.mem_cons.1 hj with rfl | hj
   ·
    rw [hx] at hp
    cases hp
   ·
    exact c j hj hp
theorem same_ok (hB : BOk l0 l1 l2 D) : ∀ (k : Nat) (s : Sp) (out : List Int) (slack : Int), SOk l0 s → cntB s.r ≤ k → 0 ≤ slack → slack ≤ l1.length → (bestV l0 l1 l2 D s).2.2 = true → slack ≤ (bestV l0 l1 l2 D s).2.1 →
  ∃ t, sameV l0 l2 D (bestV l0 l1 l2 D) slack k s out = out ++ t ∧ t.Perm (qar s.r 5) ∧ slack ≤ sl l0 l2 D l1.length s.p s.h t ∧ ∀ t', t'.Perm (qar s.r 5) → slack ≤ sl l0 l2 D l1.length s.p s.h t' → lexLe t t' := by
 intro k
 induction k with
 | zero =>
  intro s out slack hs hc h0 h1 hr hsl
  have hl : qar s.r 5 = [] := List.length_eq_zero_iff.1 (by unfold cntB at hc; omega)
  rw [hl]
  exact ⟨[], by simp [sameV], List.Perm.refl _, h1, fun t' ht' _ => by trivial⟩
 | succ k ih =>
  intro s out slack hs hc h0 h1 hr hsl
  unfold sameV
  by_cases hz : s.r = 0
  ·
   rw [if_pos hz, nil_of_zero hs.ok hz]
   exact ⟨[], by simp, List.Perm.refl _, h1, fun t' ht' _ => by trivial⟩
  ·
   rw [if_neg hz]
   obtain ⟨i, hi⟩ := good_some l0 l1 l2 D s hs.ok hz slack hr hsl
   rw [hi]
   obtain ⟨hm, hg, hfirst⟩ := find_first (sorted_loopsOf s.r 5) hi
   have hg' := hg
   unfold goodV at hg'
   simp only [Bool.and_eq_true, decide_eq_true_eq] at hg'
   obtain ⟨⟨⟨g1, g2⟩, g3⟩, g4⟩ := hg'
   obtain ⟨r1, r2⟩ := rep_eq hB hs hm
   obtain ⟨e1, e2, e3, e4, e5, e6⟩ := r2 g1
   obtain ⟨t, ht, hp, hsl', hlex⟩ := ih (repV l0 l2 D s i).1 (out ++ [i]) slack e5 (by omega) h0 h1 g3 g4
   rw [e2, e3] at hsl'
   rw [e2, e3, e4] at hlex
   rw [e4] at hp
   refine ⟨i :: t, by show sameV l0 l2 D (bestV l0 l1 l2 D) slack k (repV l0 l2 D s i).1 (out ++ [i]) = _; rw [ht]; simp, List.cons_perm_iff_perm_erase.2 ⟨hm, hp⟩, ?_, fun t' ht' hs' => ?_⟩
   ·
    simp only [sl]
    omega
   ·
    cases t' with
    | nil =>
     have := List.nil_perm.1 ht'
     rw [this] at hm
     simp at hm
    | cons j u =>
     obtain ⟨hj, hu⟩ := List.cons_perm_iff_perm_erase.1 ht'
     obtain ⟨q1, q2⟩ := rep_eq hB hs hj
     simp only [sl] at hs'
     have hr' : (repV l0 l2 D s j).2.2 = true := by rw [q1]; exact decide_eq_true (by omega)
     obtain ⟨f1, f2, f3, f4, f5, f6⟩ := q2 hr'
     obtain ⟨bA, bB⟩ := best_ok hB _ (repV l0 l2 D s j).1 f5 (Nat.le_refl _)
     rw [f2, f3, f4] at bA bB
     have hgood : goodV l0 l2 D (bestV l0 l1 l2 D) slack s j = true := by
      unfold goodV
      cases hn : (bestV l0 l1 l2 D (repV l0 l2 D s j).1).2.2 with
      | false =>
       have := bB hn u hu
       omega
      | true =>
       have := (bA hn).2.2.2 u hu
       rw [hr', f1]
       simp
       omega
     have hle := hfirst j hj hgood
     rcases Int.lt_or_eq_of_le hle with hlt | rfl
     ·
      exact .inl hlt
     ·
      exact .inr ⟨rfl, hlex u hu (by omega)⟩
theorem best_order (hB : BOk l0 l1 l2 D) (s : Sp) (hs : SOk l0 s) (hr : (bestV l0 l1 l2 D s).2.2 = true) :
  (bestV l0 l1 l2 D s).1.Perm (qar s.r 5) ∧ sl l0 l2 D l1.length s.p s.h (bestV l0 l1 l2 D s).1 = (bestV l0 l1 l2 D s).2.1 ∧ ∀ t', t'.Perm (qar s.r 5) → sl l0 l2 D l1.length s.p s.h t' = (bestV l0 l1 l2 D s).2.1 → lexLe (bestV l0 l1 l2 D s).1 t' := by
 obtain ⟨bA, _⟩ := best_ok hB _ s hs (Nat.le_refl _)
 obtain ⟨b0, b1, _, bmax⟩ := bA hr
 by_cases hz : s.r = 0
 ·
  have hb : bestV l0 l1 l2 D s = ([], (l1.length : Int), true) := by
   rw [bestV_eq l0 l1 l2 D s hs.ok]
   unfold stepV
   rw [if_pos hz]
  rw [hb, nil_of_zero hs.ok hz]
  exact ⟨List.Perm.refl _, rfl, fun t' _ _ => by trivial⟩
 ·
  have hbv : bestV l0 l1 l2 D s = stepV l0 l1 l2 D (bestV l0 l1 l2 D) s := bestV_eq l0 l1 l2 D s hs.ok
  have hb1 : (bestV l0 l1 l2 D s).2.1 = (g1 (ofV l0 l2 D (bestV l0 l1 l2 D) s) (qar s.r 5)).2.1 := by
   rw [hbv]
   unfold stepV
   rw [if_neg hz]
  have hb2 : (bestV l0 l1 l2 D s).2.2 = (g1 (ofV l0 l2 D (bestV l0 l1 l2 D) s) (qar s.r 5)).2.2 := by
   rw [hbv]
   unfold stepV
   rw [if_neg hz]
  have ht : (g1 (ofV l0 l2 D (bestV l0 l1 l2 D) s) (qar s.r 5)).2.2 = true := hb2.symm.trans hr
  have hb0 : (bestV l0 l1 l2 D s).1 = sameV l0 l2 D (bestV l0 l1 l2 D) (g1 (ofV l0 l2 D (bestV l0 l1 l2 D) s) (qar s.r 5)).2.1 5 (repV l0 l2 D s (g1 (ofV l0 l2 D (bestV l0 l1 l2 D) s) (qar s.r 5)).1).1 [(g1 (ofV l0 l2 D (bestV l0 l1 l2 D) s) (qar s.r 5)).1] := by
   rw [hbv]
   unfold stepV
   rw [if_neg hz]
   dsimp only
   rw [if_pos ht]
  have hg := g1_ok (ofV l0 l2 D (bestV l0 l1 l2 D) s) _ (sorted_loopsOf s.r 5)
  obtain ⟨hm, he⟩ := hg.mem ht
  rw [← hb1] at hb0 he
  have hfst : ∀ x ∈ qar s.r 5, ofV l0 l2 D (bestV l0 l1 l2 D) s x = ((bestV l0 l1 l2 D s).2.1, true) → (g1 (ofV l0 l2 D (bestV l0 l1 l2 D) s) (qar s.r 5)).1 ≤ x := fun x hx h => hg.first ht x hx (by rw [h, hb1])
  generalize (g1 (ofV l0 l2 D (bestV l0 l1 l2 D) s) (qar s.r 5)).1 = i at hm he hb0 hfst
  generalize hsk : (bestV l0 l1 l2 D s).2.1 = slack at b0 b1 bmax he hb0 hfst ⊢
  obtain ⟨r1, r2⟩ := rep_eq hB hs hm
  have he' := he
  unfold ofV at he'
  by_cases hrr : (repV l0 l2 D s i).2.2 = true
  ·
   rw [if_pos hrr] at he'
   obtain ⟨e1, e2, e3, e4, e5, e6⟩ := r2 hrr
   have hn : (bestV l0 l1 l2 D (repV l0 l2 D s i).1).2.2 = true := (Prod.mk.inj he').2
   have hv := (Prod.mk.inj he').1
   rw [e1] at hv
   obtain ⟨t, ht', hp, hsl', hlex⟩ := same_ok hB 5 (repV l0 l2 D s i).1 [i] slack e5 (cnt_le _) b0 b1 hn (by omega)
   rw [e2, e3] at hsl'
   rw [e2, e3, e4] at hlex
   rw [e4] at hp
   have hfull : (bestV l0 l1 l2 D s).1 = i :: t := by rw [hb0, ht']; rfl
   have hperm : (i :: t).Perm (qar s.r 5) := List.cons_perm_iff_perm_erase.2 ⟨hm, hp⟩
   have hslf : sl l0 l2 D l1.length s.p s.h (i :: t) = slack := by
    have h1 := bmax _ hperm
    have h2 : slack ≤ sl l0 l2 D l1.length s.p s.h (i :: t) := by
     simp only [sl]
     omega
    omega
   rw [hfull]
   refine ⟨hperm, hslf, fun t' ht'' hs' => ?_⟩
   cases t' with
   | nil =>
    have := List.nil_perm.1 ht''
    rw [this] at hm
    simp at hm
   | cons j u =>
    obtain ⟨hj, hu⟩ := List.cons_perm_iff_perm_erase.1 ht''
    obtain ⟨q1, q2⟩ := rep_eq hB hs hj
    have hs'' := hs'
    simp only [sl] at hs''
    have hr' : (repV l0 l2 D s j).2.2 = true := by rw [q1]; exact decide_eq_true (by omega)
    obtain ⟨f1, f2, f3, f4, f5, f6⟩ := q2 hr'
    obtain ⟨cA, cB⟩ := best_ok hB _ (repV l0 l2 D s j).1 f5 (Nat.le_refl _)
    rw [f2, f3, f4] at cA cB
    have hval : ofV l0 l2 D (bestV l0 l1 l2 D) s j = (slack, true) := by
     have hmx : (ofV l0 l2 D (bestV l0 l1 l2 D) s j).2 = true → (ofV l0 l2 D (bestV l0 l1 l2 D) s j).1 ≤ slack := fun h => by
      have := hg.max ht j hj h
      rw [← hb1, hsk] at this
      exact this
     cases hn' : (bestV l0 l1 l2 D (repV l0 l2 D s j).1).2.2 with
     | false =>
      have := cB hn' u hu
      omega
     | true =>
      have h3 := (cA hn').2.2.2 u hu
      have hof : ofV l0 l2 D (bestV l0 l1 l2 D) s j = (min (rd D j - (s.h + rd (rd_L1 l2 s.p) (j + 1) + (qal l0 j).f7.f1)) (bestV l0 l1 l2 D (repV l0 l2 D s j).1).2.1, true) := by
       unfold ofV
       rw [if_pos hr', f1, hn']
      rw [hof] at hmx ⊢
      have h4 := hmx rfl
      dsimp only at h4
      congr 1
      omega
    have hle := hfst j hj hval
    rcases Int.lt_or_eq_of_le hle with hlt | rfl
    ·
     exact .inl hlt
    ·
     exact .inr ⟨rfl, hlex u hu (by omega)⟩
  ·
   rw [if_neg hrr] at he'
   exact absurd (Prod.mk.inj he').2 (by decide)
end
end Go.Proofs.Ytipphcjgdebecaa.PA
namespace Go.Proofs.Ytipphcjgdebecaa.PA
open Go.RowKit Go.Proofs.YtipphcjgdebecaaW.PrintWords Go.Proofs.YtipphcjgdebecaaW.PrintLast Go.Proofs.YtipphcjgdebecaaW.PrintMore
attribute [local go_sem] qaw qay max_two min_two qas qat qax qaz
def talikref04_Slack.l0 : Nat → List Int → List Int → Int → Int → Int → Int → List (S39) → List (S37) → List (List Int) → Option (Int)
 | 0, _, _, _, _, _, _, _, _, _ => none
 | k + 1, x1, x3, x9, x10, x11, x12, x193000, x193001, x193002 => if x12 < (x3.length : Int) then (if 0 ≤ x10 then (if x10 < (x193002.length : Int) then (if 0 ≤ x12 then (if 0 ≤ (wrap64 ((rd x3 x12) + 1)) then (if (wrap64 ((rd x3 x12) + 1)) < ((rd_L1 x193002 x10).length : Int) then (if 0 ≤ (rd x3 x12) then (if (rd x3 x12) < (x193000.length : Int) then (if (rd x3 x12) < (x1.length : Int) then (if x12 = 0 then (talikref04_Slack.l0 k x1 x3 (wrap64 ((rd x1 (rd x3 x12)) - (wrap64 ((wrap64 (x11 + (rd (rd_L1 x193002 x10) (wrap64 ((rd x3 x12) + 1))))) + ((qal x193000 (rd x3 x12)).f7.f1))))) (wrap64 ((rd x3 x12) + 1)) (wrap64 ((wrap64 (x11 + (rd (rd_L1 x193002 x10) (wrap64 ((rd x3 x12) + 1))))) + ((qal x193000 (rd x3 x12)).f7.f1))) (wrap64 (x12 + 1)) x193000 x193001 x193002) else (if (wrap64 ((rd x1 (rd x3 x12)) - (wrap64 ((wrap64 (x11 + (rd (rd_L1 x193002 x10) (wrap64 ((rd x3 x12) + 1))))) + ((qal x193000 (rd x3 x12)).f7.f1))))) < x9 then (talikref04_Slack.l0 k x1 x3 (wrap64 ((rd x1 (rd x3 x12)) - (wrap64 ((wrap64 (x11 + (rd (rd_L1 x193002 x10) (wrap64 ((rd x3 x12) + 1))))) + ((qal x193000 (rd x3 x12)).f7.f1))))) (wrap64 ((rd x3 x12) + 1)) (wrap64 ((wrap64 (x11 + (rd (rd_L1 x193002 x10) (wrap64 ((rd x3 x12) + 1))))) + ((qal x193000 (rd x3 x12)).f7.f1))) (wrap64 (x12 + 1)) x193000 x193001 x193002) else (talikref04_Slack.l0 k x1 x3 x9 (wrap64 ((rd x3 x12) + 1)) (wrap64 ((wrap64 (x11 + (rd (rd_L1 x193002 x10) (wrap64 ((rd x3 x12) + 1))))) + ((qal x193000 (rd x3 x12)).f7.f1))) (wrap64 (x12 + 1)) x193000 x193001 x193002))) else (none)) else (none)) else (none)) else (none)) else (none)) else (none)) else (none)) else (none)) else (some x9)
def talikref04_Slack.f (k : Nat) (l0_0 : List (S39)) (l0_1 : List (S37)) (l0_2 : List (List Int)) (l1 : List Int) (a2 : Int) (l3 : List Int) : Option (Int) := talikref04_Slack.l0 k l1 l3 (l0_1.length : Int) a2 0 0 l0_0 l0_1 l0_2
theorem talikref04_Slack.calls (k : Nat) (A0_0 : Option Addr) (c0_0 : Nat) (l0_0 : List (S39)) (A0_1 : Option Addr) (c0_1 : Nat) (l0_1 : List (S37)) (A0_2 : Option Addr) (c0_2 : Nat) (l0_2 : List (List Int)) (A1 : Option Addr) (c1 : Nat) (l1 : List Int) (a2 : Int) (A3 : Option Addr) (c3 : Nat) (l3 : List Int) (r : Int) (w : World) (hr0_0 : Kd.C k39 w A0_0 l0_0.length l0_0) (hc0_0 : l0_0.length ≤ c0_0) (hr0_1 : Kd.C k37 w A0_1 l0_1.length l0_1) (hc0_1 : l0_1.length ≤ c0_1) (hr0_2 : Kd.C (Kd.slice 3 (Kd.int .i64)) w A0_2 l0_2.length l0_2) (hc0_2 : l0_2.length ≤ c0_2) (hr1 : Kd.C (Kd.int .i64) w A1 l1.length l1) (hc1 : l1.length ≤ c1) (hr3 : Kd.C (Kd.int .i64) w A3 l3.length l3) (hc3 : l3.length ≤ c3) (h : talikref04_Slack.f k l0_0 l0_1 l0_2 l1 a2 l3 = some r) :
  Calls Try.prog 31 #[.agg #[.slice A0_0 l0_0.length c0_0, .slice A0_1 l0_1.length c0_1, .slice A0_2 l0_2.length c0_2], .slice A1 l1.length c1, .int .i64 a2, .slice A3 l3.length c3] w fun e w' => e = .returned (.int .i64 r) ∧ Below w.heap.size w w' := by
 have hu26 := Try.underlying26
 have HR0_0 := qab.mk hr0_0
 have HC0_0 := qab.mk hc0_0
 clear hr0_0 hc0_0
 have HR0_1 := qab.mk hr0_1
 have HC0_1 := qab.mk hc0_1
 clear hr0_1 hc0_1
 have HR0_2 := qab.mk hr0_2
 have HC0_2 := qab.mk hc0_2
 clear hr0_2 hc0_2
 have HR1 := qab.mk hr1
 have HC1 := qab.mk hc1
 clear hr1 hc1
 have HR3 := qab.mk hr3
 have HC3 := qab.mk hc3
 clear hr3 hc3
 have HB := qab.mk (Below.refl w.heap.size w)
 have H : (talikref04_Slack.l0 k l1 l3 (l0_1.length : Int) a2 0 0 l0_0 l0_1 l0_2) = some r := h
 clear h
 have H' := qab.mk H
 clear H
 go_enter Try.func31, Try.ntmps31
 go_wp2_with (first | ((with_reducible refine qan (N := 4) rfl ?_); refine qam ?hg (N := 4) ?hd (cs := #[.slice A0_0 l0_0.length c0_0, .slice A0_1 l0_1.length c0_1, .slice A0_2 l0_2.length c0_2]) (t := 26) ?hr ?_; (case hd => rfl); (case hg => rfl); (case hr => first | (go_simp; done) | (go_simp; rfl)); intro gb192 hg w5 hbox hb; have n0_ := qab.mk (qad (by repeat (first | (with_reducible first | exact HB.out | apply qaf | apply qae | apply qah) | exact HB.out)) hb); have n1_ := qab.mk (hbox); have n2_ := qab.mk ((by rw [hg]; exact (qap (by repeat (first | (with_reducible first | exact HB.out | apply qaf | apply qae | apply qah) | exact HB.out))) : w.heap.size ≤ gb192)); have n3_ := qab.mk ((by rw [hg]; exact (qap (by repeat (first | (with_reducible first | exact HB.out | apply qaf | apply qae | apply qah) | exact HB.out))) : w.heap.size ≤ gb192)); clear HB; have HB := n0_; have BK192 := n1_; have GW192 := n2_; have GE192 := n3_; clear n0_ n1_ n2_ n3_; clear hb hbox hg; have hcz6_0 : w5.cell? ⟨gb192, 0, none⟩ = some (.slice A0_0 l0_0.length c0_0) := (qaa BK192.out 0).trans rfl; have hcz6_1 : w5.cell? ⟨gb192, 1, none⟩ = some (.slice A0_1 l0_1.length c0_1) := (qaa BK192.out 1).trans rfl; have hcz6_2 : w5.cell? ⟨gb192, 2, none⟩ = some (.slice A0_2 l0_2.length c0_2) := (qaa BK192.out 2).trans rfl; have hfz6_0 := qac BK192.out 0; have hfz6_1 := qac BK192.out 1; have hfz6_2 := qac BK192.out 2))
 repeat (go_quiet (first | ((with_reducible refine qan (N := 4) rfl ?_); refine qam ?hg (N := 4) ?hd (cs := #[.slice A0_0 l0_0.length c0_0, .slice A0_1 l0_1.length c0_1, .slice A0_2 l0_2.length c0_2]) (t := 26) ?hr ?_; (case hd => rfl); (case hg => rfl); (case hr => first | (go_simp; done) | (go_simp; rfl)); intro gb192 hg w5 hbox hb; have n0_ := qab.mk (qad (by repeat (first | (with_reducible first | exact HB.out | apply qaf | apply qae | apply qah) | exact HB.out)) hb); have n1_ := qab.mk (hbox); have n2_ := qab.mk ((by rw [hg]; exact (qap (by repeat (first | (with_reducible first | exact HB.out | apply qaf | apply qae | apply qah) | exact HB.out))) : w.heap.size ≤ gb192)); have n3_ := qab.mk ((by rw [hg]; exact (qap (by repeat (first | (with_reducible first | exact HB.out | apply qaf | apply qae | apply qah) | exact HB.out))) : w.heap.size ≤ gb192)); clear HB; have HB := n0_; have BK192 := n1_; have GW192 := n2_; have GE192 := n3_; clear n0_ n1_ n2_ n3_; clear hb hbox hg; have hcz6_0 : w5.cell? ⟨gb192, 0, none⟩ = some (.slice A0_0 l0_0.length c0_0) := (qaa BK192.out 0).trans rfl; have hcz6_1 : w5.cell? ⟨gb192, 1, none⟩ = some (.slice A0_1 l0_1.length c0_1) := (qaa BK192.out 1).trans rfl; have hcz6_2 : w5.cell? ⟨gb192, 2, none⟩ = some (.slice A0_2 l0_2.length c0_2) := (qaa BK192.out 2).trans rfl; have hfz6_0 := qac BK192.out 0; have hfz6_1 := qac BK192.out 1; have hfz6_2 := qac BK192.out 2)); try go_wp2_with (first | ((with_reducible refine qan (N := 4) rfl ?_); refine qam ?hg (N := 4) ?hd (cs := #[.slice A0_0 l0_0.length c0_0, .slice A0_1 l0_1.length c0_1, .slice A0_2 l0_2.length c0_2]) (t := 26) ?hr ?_; (case hd => rfl); (case hg => rfl); (case hr => first | (go_simp; done) | (go_simp; rfl)); intro gb192 hg w5 hbox hb; have n0_ := qab.mk (qad (by repeat (first | (with_reducible first | exact HB.out | apply qaf | apply qae | apply qah) | exact HB.out)) hb); have n1_ := qab.mk (hbox); have n2_ := qab.mk ((by rw [hg]; exact (qap (by repeat (first | (with_reducible first | exact HB.out | apply qaf | apply qae | apply qah) | exact HB.out))) : w.heap.size ≤ gb192)); have n3_ := qab.mk ((by rw [hg]; exact (qap (by repeat (first | (with_reducible first | exact HB.out | apply qaf | apply qae | apply qah) | exact HB.out))) : w.heap.size ≤ gb192)); clear HB; have HB := n0_; have BK192 := n1_; have GW192 := n2_; have GE192 := n3_; clear n0_ n1_ n2_ n3_; clear hb hbox hg; have hcz6_0 : w5.cell? ⟨gb192, 0, none⟩ = some (.slice A0_0 l0_0.length c0_0) := (qaa BK192.out 0).trans rfl; have hcz6_1 : w5.cell? ⟨gb192, 1, none⟩ = some (.slice A0_1 l0_1.length c0_1) := (qaa BK192.out 1).trans rfl; have hcz6_2 : w5.cell? ⟨gb192, 2, none⟩ = some (.slice A0_2 l0_2.length c0_2) := (qaa BK192.out 2).trans rfl; have hfz6_0 := qac BK192.out 0; have hfz6_1 := qac BK192.out 1; have hfz6_2 := qac BK192.out 2)))
 go_loopg [9, 10, 11, 12] k (fun kq v9 v10 v11 v12 w' => ∃ (x9_1 : Int) (x10_1 : Int) (x11_1 : Int) (x12_1 : Int), v9 = .int .i64 x9_1 ∧ v10 = .int .i64 x10_1 ∧ v11 = .int .i64 x11_1 ∧ v12 = .int .i64 x12_1 ∧ qab (talikref04_Slack.l0 kq l1 l3 x9_1 x10_1 x11_1 x12_1 l0_0 l0_1 l0_2 = some r) ∧ qab (kq ≤ k) ∧ qab (w'.heap[gb192]? = some (.cells #[(.slice A0_0 l0_0.length c0_0), (.slice A0_1 l0_1.length c0_1), (.slice A0_2 l0_2.length c0_2)] 26 (0, 0))) ∧ qab (Below w.heap.size w w'))
 case atStart => exact ⟨((l0_1.length : Int)), (a2), (0), (0), (by first | rfl | (simp; done) | (simp [*]; done)), (by first | rfl | (simp; done) | (simp [*]; done)), (by first | rfl | (simp; done) | (simp [*]; done)), (by first | rfl | (simp; done) | (simp [*]; done)), H', ⟨Nat.le_refl _⟩, ⟨by (with_reducible repeat (first | refine qao ?_ _ | refine qaq ?_ | refine qak ?_ _)); exact BK192.out⟩, ⟨by repeat (first | (with_reducible first | exact HB.out | apply qaf | apply qae | apply qah | refine qai ?_ GE192.out) | exact HB.out)⟩⟩
 case round =>
  clear H'
  try clear c1
  try clear p2
  try clear c3
  try clear hcz6_0
  try clear hcz6_1
  try clear hcz6_2
  try clear hfz6_0
  try clear hfz6_1
  try clear hfz6_2
  obtain ⟨x9_1, x10_1, x11_1, x12_1, rfl, rfl, rfl, rfl, HA, HK1, BK192, HB⟩ := hrel
  cases gk with
  | zero => exact absurd HA.out (by simp [talikref04_Slack.l0])
  | succ k1 =>
   have H := HA.out
   clear HA
   simp only [talikref04_Slack.l0] at H
   by_cases c7 : x12_1 < (l3.length : Int)
   ·
    rw [if_pos c7] at H
    have c7b0 : decide (x12_1 < (l3.length : Int)) = true := decide_eq_true c7
    clear c7
    by_cases c8 : 0 ≤ x10_1
    ·
     rw [if_pos c8] at H
     have c8b0 : decide (0 ≤ x10_1) = true := decide_eq_true c8
     clear c8
     by_cases c9 : x10_1 < (l0_2.length : Int)
     ·
      rw [if_pos c9] at H
      have c9b0 : decide (x10_1 < (l0_2.length : Int)) = true := decide_eq_true c9
      clear c9
      by_cases c10 : 0 ≤ x12_1
      ·
       rw [if_pos c10] at H
       have c10b0 : decide (0 ≤ x12_1) = true := decide_eq_true c10
       clear c10
       obtain ⟨ji11, hji11⟩ : ∃ j_ : Int, (wrap64 ((rd l3 x12_1) + 1)) = j_ := ⟨_, rfl⟩
       replace H : (if 0 ≤ (ji11) then (if (ji11) < ((rd_L1 l0_2 x10_1).length : Int) then (if 0 ≤ (rd l3 x12_1) then (if (rd l3 x12_1) < (l0_0.length : Int) then (if (rd l3 x12_1) < (l1.length : Int) then (if x12_1 = 0 then (talikref04_Slack.l0 k1 l1 l3 (wrap64 ((rd l1 (rd l3 x12_1)) - (wrap64 ((wrap64 (x11_1 + (rd (rd_L1 l0_2 x10_1) (ji11)))) + ((qal l0_0 (rd l3 x12_1)).f7.f1))))) ji11 (wrap64 ((wrap64 (x11_1 + (rd (rd_L1 l0_2 x10_1) (ji11)))) + ((qal l0_0 (rd l3 x12_1)).f7.f1))) (wrap64 (x12_1 + 1)) l0_0 l0_1 l0_2) else (if (wrap64 ((rd l1 (rd l3 x12_1)) - (wrap64 ((wrap64 (x11_1 + (rd (rd_L1 l0_2 x10_1) (ji11)))) + ((qal l0_0 (rd l3 x12_1)).f7.f1))))) < x9_1 then (talikref04_Slack.l0 k1 l1 l3 (wrap64 ((rd l1 (rd l3 x12_1)) - (wrap64 ((wrap64 (x11_1 + (rd (rd_L1 l0_2 x10_1) (ji11)))) + ((qal l0_0 (rd l3 x12_1)).f7.f1))))) ji11 (wrap64 ((wrap64 (x11_1 + (rd (rd_L1 l0_2 x10_1) (ji11)))) + ((qal l0_0 (rd l3 x12_1)).f7.f1))) (wrap64 (x12_1 + 1)) l0_0 l0_1 l0_2) else (talikref04_Slack.l0 k1 l1 l3 x9_1 ji11 (wrap64 ((wrap64 (x11_1 + (rd (rd_L1 l0_2 x10_1) (ji11)))) + ((qal l0_0 (rd l3 x12_1)).f7.f1))) (wrap64 (x12_1 + 1)) l0_0 l0_1 l0_2))) else (none)) else (none)) else (none)) else (none)) else (none)) = some r := by first | (rw [hji11] at H; exact H) | (simp only [hji11] at H ⊢; exact H)
       have hji11w : (IntKind.i64.wrap ((rd l3 x12_1) + 1)) = ji11 := (i64_w _).trans hji11
       by_cases c12 : 0 ≤ (ji11)
       ·
        rw [if_pos c12] at H
        have c12b0 : decide (0 ≤ (ji11)) = true := decide_eq_true c12
        clear c12
        by_cases c13 : (ji11) < ((rd_L1 l0_2 x10_1).length : Int)
        ·
         rw [if_pos c13] at H
         have c13b0 : decide ((ji11) < ((rd_L1 l0_2 x10_1).length : Int)) = true := decide_eq_true c13
         clear c13
         by_cases c14 : 0 ≤ (rd l3 x12_1)
         ·
          rw [if_pos c14] at H
          have c14b0 : decide (0 ≤ (rd l3 x12_1)) = true := decide_eq_true c14
          clear c14
          by_cases c15 : (rd l3 x12_1) < (l0_0.length : Int)
          ·
           rw [if_pos c15] at H
           have c15b0 : decide ((rd l3 x12_1) < (l0_0.length : Int)) = true := decide_eq_true c15
           clear c15
           by_cases c16 : (rd l3 x12_1) < (l1.length : Int)
           ·
            rw [if_pos c16] at H
            have c16b0 : decide ((rd l3 x12_1) < (l1.length : Int)) = true := decide_eq_true c16
            clear c16
            by_cases c17 : x12_1 = 0
            ·
             rw [if_pos c17] at H
             have c17b0 : (x12_1 == 0) = true := beq_iff_eq.mpr c17
             have c17b1 : (x12_1 != 0) = false := bne_eq_false_iff_eq.mpr c17
             clear c17
             have H' := qab.mk H
             clear H
             have hcz18_0 : wr.cell? ⟨gb192, 0, none⟩ = some (.slice A0_0 l0_0.length c0_0) := (qaa BK192.out 0).trans rfl
             have hcz18_1 : wr.cell? ⟨gb192, 1, none⟩ = some (.slice A0_1 l0_1.length c0_1) := (qaa BK192.out 1).trans rfl
             have hcz18_2 : wr.cell? ⟨gb192, 2, none⟩ = some (.slice A0_2 l0_2.length c0_2) := (qaa BK192.out 2).trans rfl
             have hfz18_0 := qac BK192.out 0
             have hfz18_1 := qac BK192.out 1
             have hfz18_2 := qac BK192.out 2
             have p193 : 0 ≤ (x10_1 : Int) := of_decide_eq_true (by first | (with_reducible assumption) | assumption)
             have q193 : x10_1 < (l0_2.length : Int) := of_decide_eq_true (by first | (with_reducible assumption) | assumption)
             obtain ⟨ad193, A193_0, c193_0, e193, hx193_0, hl193_0, hi193_0⟩ := at_L1 HR0_2.out x10_1 p193 q193
             cases e193
             replace hx193_0 := (HB.out.cell (World.block_lt_of_cell? w _ hx193_0)).trans hx193_0
             have HR193_0 := qab.mk hi193_0
             have HC193_0 := qab.mk hl193_0
             clear hi193_0 hl193_0
             replace p193 := eq_true p193
             replace q193 := eq_true q193
             have p194 : 0 ≤ (x12_1 : Int) := of_decide_eq_true (by first | (with_reducible assumption) | assumption)
             have q194 : x12_1 < (l3.length : Int) := of_decide_eq_true (by first | (with_reducible assumption) | assumption)
             obtain ⟨ad194, e194, hx194_0⟩ := Kd.at_int HR3.out x12_1 p194 q194
             cases e194
             replace hx194_0 := (HB.out.cell (World.block_lt_of_cell? w _ hx194_0)).trans hx194_0
             replace p194 := eq_true p194
             replace q194 := eq_true q194
             have p195 : 0 ≤ ((ji11) : Int) := of_decide_eq_true (by first | (with_reducible assumption) | assumption)
             have q195 : (ji11) < ((rd_L1 l0_2 x10_1).length : Int) := of_decide_eq_true (by first | (with_reducible assumption) | assumption)
             obtain ⟨ad195, e195, hx195_0⟩ := Kd.at_int HR193_0.out (ji11) p195 q195
             cases e195
             replace hx195_0 := (HB.out.cell (World.block_lt_of_cell? w _ hx195_0)).trans hx195_0
             replace p195 := eq_true p195
             replace q195 := eq_true q195
             have p196 : 0 ≤ (x12_1 : Int) := of_decide_eq_true (by first | (with_reducible assumption) | assumption)
             have q196 : x12_1 < (l3.length : Int) := of_decide_eq_true (by first | (with_reducible assumption) | assumption)
             obtain ⟨ad196, e196, hx196_0⟩ := Kd.at_int HR3.out x12_1 p196 q196
             obtain rfl : ad194 = ad196 := (by injection e196)
             replace hx196_0 := (HB.out.cell (World.block_lt_of_cell? w _ hx196_0)).trans hx196_0
             replace p196 := eq_true p196
             replace q196 := eq_true q196
             have p197 : 0 ≤ ((rd l3 x12_1) : Int) := of_decide_eq_true (by first | (with_reducible assumption) | assumption)
             have q197 : (rd l3 x12_1) < (l0_0.length : Int) := of_decide_eq_true (by first | (with_reducible assumption) | assumption)
             obtain ⟨ad197, e197, hx197_0, hx197_1, hx197_2, hx197_3, hx197_4, hx197_5, hx197_6, hx197_7, hx197_8, hx197_9, hx197_10, hx197_11⟩ := at_T39 HR0_0.out (rd l3 x12_1) p197 q197
             cases e197
             replace hx197_0 := (HB.out.cell (World.block_lt_of_cell? w _ hx197_0)).trans hx197_0
             replace hx197_1 := (HB.out.cell (World.block_lt_of_cell? w _ hx197_1)).trans hx197_1
             replace hx197_2 := (HB.out.cell (World.block_lt_of_cell? w _ hx197_2)).trans hx197_2
             replace hx197_3 := (HB.out.cell (World.block_lt_of_cell? w _ hx197_3)).trans hx197_3
             replace hx197_4 := (HB.out.cell (World.block_lt_of_cell? w _ hx197_4)).trans hx197_4
             replace hx197_5 := (HB.out.cell (World.block_lt_of_cell? w _ hx197_5)).trans hx197_5
             replace hx197_6 := (HB.out.cell (World.block_lt_of_cell? w _ hx197_6)).trans hx197_6
             replace hx197_7 := (HB.out.cell (World.block_lt_of_cell? w _ hx197_7)).trans hx197_7
             replace hx197_8 := (HB.out.cell (World.block_lt_of_cell? w _ hx197_8)).trans hx197_8
             replace hx197_9 := (HB.out.cell (World.block_lt_of_cell? w _ hx197_9)).trans hx197_9
             replace hx197_10 := (HB.out.cell (World.block_lt_of_cell? w _ hx197_10)).trans hx197_10
             replace hx197_11 := (HB.out.cell (World.block_lt_of_cell? w _ hx197_11)).trans hx197_11
             replace p197 := eq_true p197
             replace q197 := eq_true q197
             have p198 : 0 ≤ (x12_1 : Int) := of_decide_eq_true (by first | (with_reducible assumption) | assumption)
             have q198 : x12_1 < (l3.length : Int) := of_decide_eq_true (by first | (with_reducible assumption) | assumption)
             obtain ⟨ad198, e198, hx198_0⟩ := Kd.at_int HR3.out x12_1 p198 q198
             obtain rfl : ad194 = ad198 := (by injection e198)
             replace hx198_0 := (HB.out.cell (World.block_lt_of_cell? w _ hx198_0)).trans hx198_0
             replace p198 := eq_true p198
             replace q198 := eq_true q198
             have p199 : 0 ≤ (x12_1 : Int) := of_decide_eq_true (by first | (with_reducible assumption) | assumption)
             have q199 : x12_1 < (l3.length : Int) := of_decide_eq_true (by first | (with_reducible assumption) | assumption)
             obtain ⟨ad199, e199, hx199_0⟩ := Kd.at_int HR3.out x12_1 p199 q199
             obtain rfl : ad194 = ad199 := (by injection e199)
             replace hx199_0 := (HB.out.cell (World.block_lt_of_cell? w _ hx199_0)).trans hx199_0
             replace p199 := eq_true p199
             replace q199 := eq_true q199
             have p200 : 0 ≤ ((rd l3 x12_1) : Int) := of_decide_eq_true (by first | (with_reducible assumption) | assumption)
             have q200 : (rd l3 x12_1) < (l1.length : Int) := of_decide_eq_true (by first | (with_reducible assumption) | assumption)
             obtain ⟨ad200, e200, hx200_0⟩ := Kd.at_int HR1.out (rd l3 x12_1) p200 q200
             cases e200
             replace hx200_0 := (HB.out.cell (World.block_lt_of_cell? w _ hx200_0)).trans hx200_0
             replace p200 := eq_true p200
             replace q200 := eq_true q200
             go_wp2
             repeat (go_quiet (fail); try go_wp2)
             go_roundg k1
             case measure => have := HK1.out; omega
             case rel => exact ⟨(wrap64 ((rd l1 (rd l3 x12_1)) - (wrap64 ((wrap64 (x11_1 + (rd (rd_L1 l0_2 x10_1) (ji11)))) + ((qal l0_0 (rd l3 x12_1)).f7.f1))))), (ji11), (wrap64 ((wrap64 (x11_1 + (rd (rd_L1 l0_2 x10_1) (ji11)))) + ((qal l0_0 (rd l3 x12_1)).f7.f1))), (wrap64 (x12_1 + 1)), (by first | rfl | (simp; done) | (simp only [← hji11] <;> (first | rfl | simp)) | (simp [*]; done)), (by first | rfl | (simp; done) | (simp only [← hji11] <;> (first | rfl | simp)) | (simp [*]; done)), (by first | rfl | (simp; done) | (simp only [← hji11] <;> (first | rfl | simp)) | (simp [*]; done)), (by first | rfl | (simp; done) | (simp [*]; done)), H', ⟨by have := HK1.out; omega⟩, ⟨by (with_reducible repeat (first | refine qao ?_ _ | refine qaq ?_ | refine qak ?_ _)); exact BK192.out⟩, ⟨by repeat (first | (with_reducible first | exact HB.out | apply qaf | apply qae | apply qah | refine qai ?_ GE192.out) | exact HB.out)⟩⟩
            ·
             rw [if_neg c17] at H
             have c17b0 : (x12_1 == 0) = false := beq_eq_false_iff_ne.mpr c17
             have c17b1 : (x12_1 != 0) = true := bne_iff_ne.mpr c17
             by_cases c19 : (wrap64 ((rd l1 (rd l3 x12_1)) - (wrap64 ((wrap64 (x11_1 + (rd (rd_L1 l0_2 x10_1) (ji11)))) + ((qal l0_0 (rd l3 x12_1)).f7.f1))))) < x9_1
             ·
              rw [if_pos c19] at H
              have c19b0 : decide ((wrap64 ((rd l1 (rd l3 x12_1)) - (wrap64 ((wrap64 (x11_1 + (rd (rd_L1 l0_2 x10_1) (ji11)))) + ((qal l0_0 (rd l3 x12_1)).f7.f1))))) < x9_1) = true := decide_eq_true c19
              clear c19
              have H' := qab.mk H
              clear H
              have hcz20_0 : wr.cell? ⟨gb192, 0, none⟩ = some (.slice A0_0 l0_0.length c0_0) := (qaa BK192.out 0).trans rfl
              have hcz20_1 : wr.cell? ⟨gb192, 1, none⟩ = some (.slice A0_1 l0_1.length c0_1) := (qaa BK192.out 1).trans rfl
              have hcz20_2 : wr.cell? ⟨gb192, 2, none⟩ = some (.slice A0_2 l0_2.length c0_2) := (qaa BK192.out 2).trans rfl
              have hfz20_0 := qac BK192.out 0
              have hfz20_1 := qac BK192.out 1
              have hfz20_2 := qac BK192.out 2
              have p193 : 0 ≤ (x10_1 : Int) := of_decide_eq_true (by first | (with_reducible assumption) | assumption)
              have q193 : x10_1 < (l0_2.length : Int) := of_decide_eq_true (by first | (with_reducible assumption) | assumption)
              obtain ⟨ad193, A193_0, c193_0, e193, hx193_0, hl193_0, hi193_0⟩ := at_L1 HR0_2.out x10_1 p193 q193
              cases e193
              replace hx193_0 := (HB.out.cell (World.block_lt_of_cell? w _ hx193_0)).trans hx193_0
              have HR193_0 := qab.mk hi193_0
              have HC193_0 := qab.mk hl193_0
              clear hi193_0 hl193_0
              replace p193 := eq_true p193
              replace q193 := eq_true q193
              have p194 : 0 ≤ (x12_1 : Int) := of_decide_eq_true (by first | (with_reducible assumption) | assumption)
              have q194 : x12_1 < (l3.length : Int) := of_decide_eq_true (by first | (with_reducible assumption) | assumption)
              obtain ⟨ad194, e194, hx194_0⟩ := Kd.at_int HR3.out x12_1 p194 q194
              cases e194
              replace hx194_0 := (HB.out.cell (World.block_lt_of_cell? w _ hx194_0)).trans hx194_0
              replace p194 := eq_true p194
              replace q194 := eq_true q194
              have p195 : 0 ≤ ((ji11) : Int) := of_decide_eq_true (by first | (with_reducible assumption) | assumption)
              have q195 : (ji11) < ((rd_L1 l0_2 x10_1).length : Int) := of_decide_eq_true (by first | (with_reducible assumption) | assumption)
              obtain ⟨ad195, e195, hx195_0⟩ := Kd.at_int HR193_0.out (ji11) p195 q195
              cases e195
              replace hx195_0 := (HB.out.cell (World.block_lt_of_cell? w _ hx195_0)).trans hx195_0
              replace p195 := eq_true p195
              replace q195 := eq_true q195
              have p196 : 0 ≤ (x12_1 : Int) := of_decide_eq_true (by first | (with_reducible assumption) | assumption)
              have q196 : x12_1 < (l3.length : Int) := of_decide_eq_true (by first | (with_reducible assumption) | assumption)
              obtain ⟨ad196, e196, hx196_0⟩ := Kd.at_int HR3.out x12_1 p196 q196
              obtain rfl : ad194 = ad196 := (by injection e196)
              replace hx196_0 := (HB.out.cell (World.block_lt_of_cell? w _ hx196_0)).trans hx196_0
              replace p196 := eq_true p196
              replace q196 := eq_true q196
              have p197 : 0 ≤ ((rd l3 x12_1) : Int) := of_decide_eq_true (by first | (with_reducible assumption) | assumption)
              have q197 : (rd l3 x12_1) < (l0_0.length : Int) := of_decide_eq_true (by first | (with_reducible assumption) | assumption)
              obtain ⟨ad197, e197, hx197_0, hx197_1, hx197_2, hx197_3, hx197_4, hx197_5, hx197_6, hx197_7, hx197_8, hx197_9, hx197_10, hx197_11⟩ := at_T39 HR0_0.out (rd l3 x12_1) p197 q197
              cases e197
              replace hx197_0 := (HB.out.cell (World.block_lt_of_cell? w _ hx197_0)).trans hx197_0
              replace hx197_1 := (HB.out.cell (World.block_lt_of_cell? w _ hx197_1)).trans hx197_1
              replace hx197_2 := (HB.out.cell (World.block_lt_of_cell? w _ hx197_2)).trans hx197_2
              replace hx197_3 := (HB.out.cell (World.block_lt_of_cell? w _ hx197_3)).trans hx197_3
              replace hx197_4 := (HB.out.cell (World.block_lt_of_cell? w _ hx197_4)).trans hx197_4
              replace hx197_5 := (HB.out.cell (World.block_lt_of_cell? w _ hx197_5)).trans hx197_5
              replace hx197_6 := (HB.out.cell (World.block_lt_of_cell? w _ hx197_6)).trans hx197_6
              replace hx197_7 := (HB.out.cell (World.block_lt_of_cell? w _ hx197_7)).trans hx197_7
              replace hx197_8 := (HB.out.cell (World.block_lt_of_cell? w _ hx197_8)).trans hx197_8
              replace hx197_9 := (HB.out.cell (World.block_lt_of_cell? w _ hx197_9)).trans hx197_9
              replace hx197_10 := (HB.out.cell (World.block_lt_of_cell? w _ hx197_10)).trans hx197_10
              replace hx197_11 := (HB.out.cell (World.block_lt_of_cell? w _ hx197_11)).trans hx197_11
              replace p197 := eq_true p197
              replace q197 := eq_true q197
              have p198 : 0 ≤ (x12_1 : Int) := of_decide_eq_true (by first | (with_reducible assumption) | assumption)
              have q198 : x12_1 < (l3.length : Int) := of_decide_eq_true (by first | (with_reducible assumption) | assumption)
              obtain ⟨ad198, e198, hx198_0⟩ := Kd.at_int HR3.out x12_1 p198 q198
              obtain rfl : ad194 = ad198 := (by injection e198)
              replace hx198_0 := (HB.out.cell (World.block_lt_of_cell? w _ hx198_0)).trans hx198_0
              replace p198 := eq_true p198
              replace q198 := eq_true q198
              have p199 : 0 ≤ (x12_1 : Int) := of_decide_eq_true (by first | (with_reducible assumption) | assumption)
              have q199 : x12_1 < (l3.length : Int) := of_decide_eq_true (by first | (with_reducible assumption) | assumption)
              obtain ⟨ad199, e199, hx199_0⟩ := Kd.at_int HR3.out x12_1 p199 q199
              obtain rfl : ad194 = ad199 := (by injection e199)
              replace hx199_0 := (HB.out.cell (World.block_lt_of_cell? w _ hx199_0)).trans hx199_0
              replace p199 := eq_true p199
              replace q199 := eq_true q199
              have p200 : 0 ≤ ((rd l3 x12_1) : Int) := of_decide_eq_true (by first | (with_reducible assumption) | assumption)
              have q200 : (rd l3 x12_1) < (l1.length : Int) := of_decide_eq_true (by first | (with_reducible assumption) | assumption)
              obtain ⟨ad200, e200, hx200_0⟩ := Kd.at_int HR1.out (rd l3 x12_1) p200 q200
              cases e200
              replace hx200_0 := (HB.out.cell (World.block_lt_of_cell? w _ hx200_0)).trans hx200_0
              replace p200 := eq_true p200
              replace q200 := eq_true q200
              go_wp2
              repeat (go_quiet (fail); try go_wp2)
              go_roundg k1
              case measure => have := HK1.out; omega
              case rel => exact ⟨(wrap64 ((rd l1 (rd l3 x12_1)) - (wrap64 ((wrap64 (x11_1 + (rd (rd_L1 l0_2 x10_1) (ji11)))) + ((qal l0_0 (rd l3 x12_1)).f7.f1))))), (ji11), (wrap64 ((wrap64 (x11_1 + (rd (rd_L1 l0_2 x10_1) (ji11)))) + ((qal l0_0 (rd l3 x12_1)).f7.f1))), (wrap64 (x12_1 + 1)), (by first | rfl | (simp; done) | (simp only [← hji11] <;> (first | rfl | simp)) | (simp [*]; done)), (by first | rfl | (simp; done) | (simp only [← hji11] <;> (first | rfl | simp)) | (simp [*]; done)), (by first | rfl | (simp; done) | (simp only [← hji11] <;> (first | rfl | simp)) | (simp [*]; done)), (by first | rfl | (simp; done) | (simp [*]; done)), H', ⟨by have := HK1.out; omega⟩, ⟨by (with_reducible repeat (first | refine qao ?_ _ | refine qaq ?_ | refine qak ?_ _)); exact BK192.out⟩, ⟨by repeat (first | (with_reducible first | exact HB.out | apply qaf | apply qae | apply qah | refine qai ?_ GE192.out) | exact HB.out)⟩⟩
             ·
              rw [if_neg c19] at H
              have c19b0 : decide ((wrap64 ((rd l1 (rd l3 x12_1)) - (wrap64 ((wrap64 (x11_1 + (rd (rd_L1 l0_2 x10_1) (ji11)))) + ((qal l0_0 (rd l3 x12_1)).f7.f1))))) < x9_1) = false := decide_eq_false c19
              clear c19
              have H' := qab.mk H
              clear H
              have hcz21_0 : wr.cell? ⟨gb192, 0, none⟩ = some (.slice A0_0 l0_0.length c0_0) := (qaa BK192.out 0).trans rfl
              have hcz21_1 : wr.cell? ⟨gb192, 1, none⟩ = some (.slice A0_1 l0_1.length c0_1) := (qaa BK192.out 1).trans rfl
              have hcz21_2 : wr.cell? ⟨gb192, 2, none⟩ = some (.slice A0_2 l0_2.length c0_2) := (qaa BK192.out 2).trans rfl
              have hfz21_0 := qac BK192.out 0
              have hfz21_1 := qac BK192.out 1
              have hfz21_2 := qac BK192.out 2
              have p193 : 0 ≤ (x10_1 : Int) := of_decide_eq_true (by first | (with_reducible assumption) | assumption)
              have q193 : x10_1 < (l0_2.length : Int) := of_decide_eq_true (by first | (with_reducible assumption) | assumption)
              obtain ⟨ad193, A193_0, c193_0, e193, hx193_0, hl193_0, hi193_0⟩ := at_L1 HR0_2.out x10_1 p193 q193
              cases e193
              replace hx193_0 := (HB.out.cell (World.block_lt_of_cell? w _ hx193_0)).trans hx193_0
              have HR193_0 := qab.mk hi193_0
              have HC193_0 := qab.mk hl193_0
              clear hi193_0 hl193_0
              replace p193 := eq_true p193
              replace q193 := eq_true q193
              have p194 : 0 ≤ (x12_1 : Int) := of_decide_eq_true (by first | (with_reducible assumption) | assumption)
              have q194 : x12_1 < (l3.length : Int) := of_decide_eq_true (by first | (with_reducible assumption) | assumption)
              obtain ⟨ad194, e194, hx194_0⟩ := Kd.at_int HR3.out x12_1 p194 q194
              cases e194
              replace hx194_0 := (HB.out.cell (World.block_lt_of_cell? w _ hx194_0)).trans hx194_0
              replace p194 := eq_true p194
              replace q194 := eq_true q194
              have p195 : 0 ≤ ((ji11) : Int) := of_decide_eq_true (by first | (with_reducible assumption) | assumption)
              have q195 : (ji11) < ((rd_L1 l0_2 x10_1).length : Int) := of_decide_eq_true (by first | (with_reducible assumption) | assumption)
              obtain ⟨ad195, e195, hx195_0⟩ := Kd.at_int HR193_0.out (ji11) p195 q195
              cases e195
              replace hx195_0 := (HB.out.cell (World.block_lt_of_cell? w _ hx195_0)).trans hx195_0
              replace p195 := eq_true p195
              replace q195 := eq_true q195
              have p196 : 0 ≤ (x12_1 : Int) := of_decide_eq_true (by first | (with_reducible assumption) | assumption)
              have q196 : x12_1 < (l3.length : Int) := of_decide_eq_true (by first | (with_reducible assumption) | assumption)
              obtain ⟨ad196, e196, hx196_0⟩ := Kd.at_int HR3.out x12_1 p196 q196
              obtain rfl : ad194 = ad196 := (by injection e196)
              replace hx196_0 := (HB.out.cell (World.block_lt_of_cell? w _ hx196_0)).trans hx196_0
              replace p196 := eq_true p196
              replace q196 := eq_true q196
              have p197 : 0 ≤ ((rd l3 x12_1) : Int) := of_decide_eq_true (by first | (with_reducible assumption) | assumption)
              have q197 : (rd l3 x12_1) < (l0_0.length : Int) := of_decide_eq_true (by first | (with_reducible assumption) | assumption)
              obtain ⟨ad197, e197, hx197_0, hx197_1, hx197_2, hx197_3, hx197_4, hx197_5, hx197_6, hx197_7, hx197_8, hx197_9, hx197_10, hx197_11⟩ := at_T39 HR0_0.out (rd l3 x12_1) p197 q197
              cases e197
              replace hx197_0 := (HB.out.cell (World.block_lt_of_cell? w _ hx197_0)).trans hx197_0
              replace hx197_1 := (HB.out.cell (World.block_lt_of_cell? w _ hx197_1)).trans hx197_1
              replace hx197_2 := (HB.out.cell (World.block_lt_of_cell? w _ hx197_2)).trans hx197_2
              replace hx197_3 := (HB.out.cell (World.block_lt_of_cell? w _ hx197_3)).trans hx197_3
              replace hx197_4 := (HB.out.cell (World.block_lt_of_cell? w _ hx197_4)).trans hx197_4
              replace hx197_5 := (HB.out.cell (World.block_lt_of_cell? w _ hx197_5)).trans hx197_5
              replace hx197_6 := (HB.out.cell (World.block_lt_of_cell? w _ hx197_6)).trans hx197_6
              replace hx197_7 := (HB.out.cell (World.block_lt_of_cell? w _ hx197_7)).trans hx197_7
              replace hx197_8 := (HB.out.cell (World.block_lt_of_cell? w _ hx197_8)).trans hx197_8
              replace hx197_9 := (HB.out.cell (World.block_lt_of_cell? w _ hx197_9)).trans hx197_9
              replace hx197_10 := (HB.out.cell (World.block_lt_of_cell? w _ hx197_10)).trans hx197_10
              replace hx197_11 := (HB.out.cell (World.block_lt_of_cell? w _ hx197_11)).trans hx197_11
              replace p197 := eq_true p197
              replace q197 := eq_true q197
              have p198 : 0 ≤ (x12_1 : Int) := of_decide_eq_true (by first | (with_reducible assumption) | assumption)
              have q198 : x12_1 < (l3.length : Int) := of_decide_eq_true (by first | (with_reducible assumption) | assumption)
              obtain ⟨ad198, e198, hx198_0⟩ := Kd.at_int HR3.out x12_1 p198 q198
              obtain rfl : ad194 = ad198 := (by injection e198)
              replace hx198_0 := (HB.out.cell (World.block_lt_of_cell? w _ hx198_0)).trans hx198_0
              replace p198 := eq_true p198
              replace q198 := eq_true q198
              have p199 : 0 ≤ (x12_1 : Int) := of_decide_eq_true (by first | (with_reducible assumption) | assumption)
              have q199 : x12_1 < (l3.length : Int) := of_decide_eq_true (by first | (with_reducible assumption) | assumption)
              obtain ⟨ad199, e199, hx199_0⟩ := Kd.at_int HR3.out x12_1 p199 q199
              obtain rfl : ad194 = ad199 := (by injection e199)
              replace hx199_0 := (HB.out.cell (World.block_lt_of_cell? w _ hx199_0)).trans hx199_0
              replace p199 := eq_true p199
              replace q199 := eq_true q199
              have p200 : 0 ≤ ((rd l3 x12_1) : Int) := of_decide_eq_true (by first | (with_reducible assumption) | assumption)
              have q200 : (rd l3 x12_1) < (l1.length : Int) := of_decide_eq_true (by first | (with_reducible assumption) | assumption)
              obtain ⟨ad200, e200, hx200_0⟩ := Kd.at_int HR1.out (rd l3 x12_1) p200 q200
              cases e200
              replace hx200_0 := (HB.out.cell (World.block_lt_of_cell? w _ hx200_0)).trans hx200_0
              replace p200 := eq_true p200
              replace q200 := eq_true q200
              go_wp2
              repeat (go_quiet (fail); try go_wp2)
              go_roundg k1
              case measure => have := HK1.out; omega
              case rel => exact ⟨(x9_1), (ji11), (wrap64 ((wrap64 (x11_1 + (rd (rd_L1 l0_2 x10_1) (ji11)))) + ((qal l0_0 (rd l3 x12_1)).f7.f1))), (wrap64 (x12_1 + 1)), (by first | rfl | (simp; done) | (simp [*]; done)), (by first | rfl | (simp; done) | (simp only [← hji11] <;> (first | rfl | simp)) | (simp [*]; done)), (by first | rfl | (simp; done) | (simp only [← hji11] <;> (first | rfl | simp)) | (simp [*]; done)), (by first | rfl | (simp; done) | (simp [*]; done)), H', ⟨by have := HK1.out; omega⟩, ⟨by (with_reducible repeat (first | refine qao ?_ _ | refine qaq ?_ | refine qak ?_ _)); exact BK192.out⟩, ⟨by repeat (first | (with_reducible first | exact HB.out | apply qaf | apply qae | apply qah | refine qai ?_ GE192.out) | exact HB.out)⟩⟩
           ·
            rw [if_neg c16] at H
            exact absurd H (by simp)
          ·
           rw [if_neg c15] at H
           exact absurd H (by simp)
         ·
          rw [if_neg c14] at H
          exact absurd H (by simp)
        ·
         rw [if_neg c13] at H
         exact absurd H (by simp)
       ·
        rw [if_neg c12] at H
        exact absurd H (by simp)
      ·
       rw [if_neg c10] at H
       exact absurd H (by simp)
     ·
      rw [if_neg c9] at H
      exact absurd H (by simp)
    ·
     rw [if_neg c8] at H
     exact absurd H (by simp)
   ·
    rw [if_neg c7] at H
    have c7b0 : decide (x12_1 < (l3.length : Int)) = false := decide_eq_false c7
    clear c7
    obtain rfl := Option.some.inj H
    go_wp2
    repeat (go_quiet (fail); try go_wp2)
    go_ret
    exact ⟨by first | rfl | (simp [qau, qav] <;> rfl) | (simp [*, qau, qav] <;> rfl), by repeat (first | (with_reducible first | exact HB.out | apply qaf | apply qae | apply qah | refine qai ?_ GE192.out) | exact HB.out)⟩
def talikref04_Has.l0 : Nat → Int → Int → Int → Option (Bool)
 | 0, _, _, _ => none
 | k + 1, x0, x1, x5 => if x5 < x1 then (talikref04_Has.l0 k (wrap64 (Int.tdiv x0 2)) x1 (wrap64 (x5 + 1))) else (some ((Int.tmod x0 2) == 1))
def talikref04_Has.f (k : Nat) (a0 : Int) (a1 : Int) : Option (Bool) := talikref04_Has.l0 k a0 a1 0
theorem talikref04_Has.calls (k : Nat) (a0 : Int) (a1 : Int) (r : Bool) (w : World) (h : talikref04_Has.f k a0 a1 = some r) :
  Calls Try.prog 68 #[.int .i64 a0, .int .i64 a1] w fun e w' => e = .returned (.bool r) ∧ Drawn0 w w' := by
 have H : (talikref04_Has.l0 k a0 a1 0) = some r := h
 clear h
 have H' := qab.mk H
 clear H
 go_enter Try.func68, Try.ntmps68
 go_wp2
 go_loopg [0, 5] k (fun kq v0 v5 w' => ∃ (x0_1 : Int) (x5_1 : Int), v0 = .int .i64 x0_1 ∧ v5 = .int .i64 x5_1 ∧ qab (talikref04_Has.l0 kq x0_1 a1 x5_1 = some r) ∧ qab (kq ≤ k) ∧ Drawn0 w w')
 case atStart => exact ⟨(a0), (0), (by first | rfl | (simp; done) | (simp [*]; done)), (by first | rfl | (simp; done) | (simp [*]; done)), H', ⟨Nat.le_refl _⟩, by repeat (first | exact Drawn0.refl _ | apply Drawn0.step)⟩
 case round =>
  clear H'
  try clear p2
  obtain ⟨x0_1, x5_1, rfl, rfl, HA, HK1, ⟨m1, rfl⟩⟩ := hrel
  cases gk with
  | zero => exact absurd HA.out (by simp [talikref04_Has.l0])
  | succ k1 =>
   have H := HA.out
   clear HA
   simp only [talikref04_Has.l0] at H
   by_cases c3 : x5_1 < a1
   ·
    rw [if_pos c3] at H
    have c3b0 : decide (x5_1 < a1) = true := decide_eq_true c3
    clear c3
    have H' := qab.mk H
    clear H
    go_wp2
    go_roundg k1
    case measure => have := HK1.out; omega
    case rel => exact ⟨(wrap64 (Int.tdiv x0_1 2)), (wrap64 (x5_1 + 1)), (by first | rfl | (simp; done) | (simp [*]; done)), (by first | rfl | (simp; done) | (simp [*]; done)), H', ⟨by have := HK1.out; omega⟩, by repeat (first | exact Drawn0.refl _ | apply Drawn0.step)⟩
   ·
    rw [if_neg c3] at H
    have c3b0 : decide (x5_1 < a1) = false := decide_eq_false c3
    clear c3
    obtain rfl := Option.some.inj H
    go_wp2
    go_ret
    exact ⟨by first | rfl | (simp; done) | (simp [*]; done), by repeat (first | exact Drawn0.refl _ | apply Drawn0.step)⟩
def talikref04_Place.f (l0_0 : List (S39)) (l0_1 : List (S37)) (l0_2 : List (List Int)) (a1 : Int) : Option (Bool) := (talikref04_in.f a1 0 (l0_0.length : Int)).bind fun t187 => (some t187)
theorem talikref04_Place.calls (A0_0 : Option Addr) (c0_0 : Nat) (l0_0 : List (S39)) (A0_1 : Option Addr) (c0_1 : Nat) (l0_1 : List (S37)) (A0_2 : Option Addr) (c0_2 : Nat) (l0_2 : List (List Int)) (a1 : Int) (r : Bool) (w : World) (hr0_0 : Kd.C k39 w A0_0 l0_0.length l0_0) (hc0_0 : l0_0.length ≤ c0_0) (hr0_1 : Kd.C k37 w A0_1 l0_1.length l0_1) (hc0_1 : l0_1.length ≤ c0_1) (hr0_2 : Kd.C (Kd.slice 3 (Kd.int .i64)) w A0_2 l0_2.length l0_2) (hc0_2 : l0_2.length ≤ c0_2) (h : talikref04_Place.f l0_0 l0_1 l0_2 a1 = some r) :
  Calls Try.prog 25 #[.agg #[.slice A0_0 l0_0.length c0_0, .slice A0_1 l0_1.length c0_1, .slice A0_2 l0_2.length c0_2], .int .i64 a1] w fun e w' => e = .returned (.bool r) ∧ Below w.heap.size w w' := by
 have hu26 := Try.underlying26
 have HR0_0 := qab.mk hr0_0
 have HC0_0 := qab.mk hc0_0
 clear hr0_0 hc0_0
 have HR0_1 := qab.mk hr0_1
 have HC0_1 := qab.mk hc0_1
 clear hr0_1 hc0_1
 have HR0_2 := qab.mk hr0_2
 have HC0_2 := qab.mk hc0_2
 clear hr0_2 hc0_2
 have HB := qab.mk (Below.refl w.heap.size w)
 have H : ((talikref04_in.f a1 0 (l0_0.length : Int)).bind fun t187 => (some t187)) = some r := h
 clear h
 replace H := Option.bind_eq_some_iff.mp H
 obtain ⟨t187, A30, H⟩ := H
 replace H : (some t187) = some r := H
 have A3 := qab.mk A30
 clear A30
 obtain rfl := Option.some.inj H
 go_enter Try.func25, Try.ntmps25
 go_wp2_with (first | ((with_reducible refine qan (N := 2) rfl ?_); refine qam ?hg (N := 2) ?hd (cs := #[.slice A0_0 l0_0.length c0_0, .slice A0_1 l0_1.length c0_1, .slice A0_2 l0_2.length c0_2]) (t := 26) ?hr ?_; (case hd => rfl); (case hg => rfl); (case hr => first | (go_simp; done) | (go_simp; rfl)); intro gb186 hg w4 hbox hb; have n0_ := qab.mk (qad (by repeat (first | (with_reducible first | exact HB.out | apply qaf | apply qae | apply qah) | exact HB.out)) hb); have n1_ := qab.mk (hbox); have n2_ := qab.mk ((by rw [hg]; exact (qap (by repeat (first | (with_reducible first | exact HB.out | apply qaf | apply qae | apply qah) | exact HB.out))) : w.heap.size ≤ gb186)); have n3_ := qab.mk ((by rw [hg]; exact (qap (by repeat (first | (with_reducible first | exact HB.out | apply qaf | apply qae | apply qah) | exact HB.out))) : w.heap.size ≤ gb186)); clear HB; have HB := n0_; have BK186 := n1_; have GW186 := n2_; have GE186 := n3_; clear n0_ n1_ n2_ n3_; clear hb hbox hg; have hcz5_0 : w4.cell? ⟨gb186, 0, none⟩ = some (.slice A0_0 l0_0.length c0_0) := (qaa BK186.out 0).trans rfl; have hcz5_1 : w4.cell? ⟨gb186, 1, none⟩ = some (.slice A0_1 l0_1.length c0_1) := (qaa BK186.out 1).trans rfl; have hcz5_2 : w4.cell? ⟨gb186, 2, none⟩ = some (.slice A0_2 l0_2.length c0_2) := (qaa BK186.out 2).trans rfl; have hfz5_0 := qac BK186.out 0; have hfz5_1 := qac BK186.out 1; have hfz5_2 := qac BK186.out 2) | ((with_reducible refine gate_callee (f := 60) rfl ?_); refine goesL_ (some 9) rfl rfl Try.func60 (by kernel_rfl) rfl #[.int .i64 a1, .int .i64 0, .int .i64 (l0_0.length : Int)] rfl (by (try simp only [List.map_toArray, List.map_cons, List.map_nil]); first | done | rfl | (simp only [List.length_drop, List.length_take]; rfl)) ?_; (with_reducible refine (talikref04_in.calls a1 0 (l0_0.length : Int) t187 _ A3.out).mono ?_); rintro e w' ⟨rfl, ⟨nd, rfl⟩⟩; refine ⟨_, rfl, ?_⟩))
 go_ret
 exact ⟨by first | rfl | (simp [qau, qav] <;> rfl) | (simp [*, qau, qav] <;> rfl), by repeat (first | (with_reducible first | exact HB.out | apply qaf | apply qae | apply qah | refine qai ?_ GE186.out) | exact HB.out)⟩
def talikref04_Sets.l0 : Nat → Int → Int → List (S39) → List (S37) → List (List Int) → Option (Int)
 | 0, _, _, _, _, _ => none
 | k + 1, x3, x4, x189000, x189001, x189002 => if x4 < (x189000.length : Int) then (talikref04_Sets.l0 k (wrap64 (2 * x3)) (wrap64 (x4 + 1)) x189000 x189001 x189002) else (some x3)
def talikref04_Sets.f (k : Nat) (l0_0 : List (S39)) (l0_1 : List (S37)) (l0_2 : List (List Int)) : Option (Int) := talikref04_Sets.l0 k 1 0 l0_0 l0_1 l0_2
theorem talikref04_Sets.calls (k : Nat) (A0_0 : Option Addr) (c0_0 : Nat) (l0_0 : List (S39)) (A0_1 : Option Addr) (c0_1 : Nat) (l0_1 : List (S37)) (A0_2 : Option Addr) (c0_2 : Nat) (l0_2 : List (List Int)) (r : Int) (w : World) (hr0_0 : Kd.C k39 w A0_0 l0_0.length l0_0) (hc0_0 : l0_0.length ≤ c0_0) (hr0_1 : Kd.C k37 w A0_1 l0_1.length l0_1) (hc0_1 : l0_1.length ≤ c0_1) (hr0_2 : Kd.C (Kd.slice 3 (Kd.int .i64)) w A0_2 l0_2.length l0_2) (hc0_2 : l0_2.length ≤ c0_2) (h : talikref04_Sets.f k l0_0 l0_1 l0_2 = some r) :
  Calls Try.prog 65 #[.agg #[.slice A0_0 l0_0.length c0_0, .slice A0_1 l0_1.length c0_1, .slice A0_2 l0_2.length c0_2]] w fun e w' => e = .returned (.int .i64 r) ∧ Below w.heap.size w w' := by
 have hu26 := Try.underlying26
 have HR0_0 := qab.mk hr0_0
 have HC0_0 := qab.mk hc0_0
 clear hr0_0 hc0_0
 have HR0_1 := qab.mk hr0_1
 have HC0_1 := qab.mk hc0_1
 clear hr0_1 hc0_1
 have HR0_2 := qab.mk hr0_2
 have HC0_2 := qab.mk hc0_2
 clear hr0_2 hc0_2
 have HB := qab.mk (Below.refl w.heap.size w)
 have H : (talikref04_Sets.l0 k 1 0 l0_0 l0_1 l0_2) = some r := h
 clear h
 have H' := qab.mk H
 clear H
 go_enter Try.func65, Try.ntmps65
 go_wp2_with (first | ((with_reducible refine qan (N := 1) rfl ?_); refine qam ?hg (N := 1) ?hd (cs := #[.slice A0_0 l0_0.length c0_0, .slice A0_1 l0_1.length c0_1, .slice A0_2 l0_2.length c0_2]) (t := 26) ?hr ?_; (case hd => rfl); (case hg => rfl); (case hr => first | (go_simp; done) | (go_simp; rfl)); intro gb188 hg w2 hbox hb; have n0_ := qab.mk (qad (by repeat (first | (with_reducible first | exact HB.out | apply qaf | apply qae | apply qah) | exact HB.out)) hb); have n1_ := qab.mk (hbox); have n2_ := qab.mk ((by rw [hg]; exact (qap (by repeat (first | (with_reducible first | exact HB.out | apply qaf | apply qae | apply qah) | exact HB.out))) : w.heap.size ≤ gb188)); have n3_ := qab.mk ((by rw [hg]; exact (qap (by repeat (first | (with_reducible first | exact HB.out | apply qaf | apply qae | apply qah) | exact HB.out))) : w.heap.size ≤ gb188)); clear HB; have HB := n0_; have BK188 := n1_; have GW188 := n2_; have GE188 := n3_; clear n0_ n1_ n2_ n3_; clear hb hbox hg))
 go_loopg [3, 4] k (fun kq v3 v4 w' => ∃ (x3_1 : Int) (x4_1 : Int), v3 = .int .i64 x3_1 ∧ v4 = .int .i64 x4_1 ∧ qab (talikref04_Sets.l0 kq x3_1 x4_1 l0_0 l0_1 l0_2 = some r) ∧ qab (kq ≤ k) ∧ qab (w'.heap[gb188]? = some (.cells #[(.slice A0_0 l0_0.length c0_0), (.slice A0_1 l0_1.length c0_1), (.slice A0_2 l0_2.length c0_2)] 26 (0, 0))) ∧ qab (Below w.heap.size w w'))
 case atStart => exact ⟨(1), (0), (by first | rfl | (simp; done) | (simp [*]; done)), (by first | rfl | (simp; done) | (simp [*]; done)), H', ⟨Nat.le_refl _⟩, ⟨by (with_reducible repeat (first | refine qao ?_ _ | refine qaq ?_ | refine qak ?_ _)); exact BK188.out⟩, ⟨by repeat (first | (with_reducible first | exact HB.out | apply qaf | apply qae | apply qah | refine qai ?_ GE188.out) | exact HB.out)⟩⟩
 case round =>
  clear H'
  try clear p2
  obtain ⟨x3_1, x4_1, rfl, rfl, HA, HK1, BK188, HB⟩ := hrel
  cases gk with
  | zero => exact absurd HA.out (by simp [talikref04_Sets.l0])
  | succ k1 =>
   have H := HA.out
   clear HA
   simp only [talikref04_Sets.l0] at H
   by_cases c3 : x4_1 < (l0_0.length : Int)
   ·
    rw [if_pos c3] at H
    have c3b0 : decide (x4_1 < (l0_0.length : Int)) = true := decide_eq_true c3
    clear c3
    have H' := qab.mk H
    clear H
    have hcz4_0 : wr.cell? ⟨gb188, 0, none⟩ = some (.slice A0_0 l0_0.length c0_0) := (qaa BK188.out 0).trans rfl
    have hcz4_1 : wr.cell? ⟨gb188, 1, none⟩ = some (.slice A0_1 l0_1.length c0_1) := (qaa BK188.out 1).trans rfl
    have hcz4_2 : wr.cell? ⟨gb188, 2, none⟩ = some (.slice A0_2 l0_2.length c0_2) := (qaa BK188.out 2).trans rfl
    have hfz4_0 := qac BK188.out 0
    have hfz4_1 := qac BK188.out 1
    have hfz4_2 := qac BK188.out 2
    go_wp2
    go_roundg k1
    case measure => have := HK1.out; omega
    case rel => exact ⟨(wrap64 (2 * x3_1)), (wrap64 (x4_1 + 1)), (by first | rfl | (simp; done) | (simp [*]; done)), (by first | rfl | (simp; done) | (simp [*]; done)), H', ⟨by have := HK1.out; omega⟩, ⟨by (with_reducible repeat (first | refine qao ?_ _ | refine qaq ?_ | refine qak ?_ _)); exact BK188.out⟩, ⟨by repeat (first | (with_reducible first | exact HB.out | apply qaf | apply qae | apply qah | refine qai ?_ GE188.out) | exact HB.out)⟩⟩
   ·
    rw [if_neg c3] at H
    have c3b0 : decide (x4_1 < (l0_0.length : Int)) = false := decide_eq_false c3
    clear c3
    obtain rfl := Option.some.inj H
    have hcz5_0 : wr.cell? ⟨gb188, 0, none⟩ = some (.slice A0_0 l0_0.length c0_0) := (qaa BK188.out 0).trans rfl
    have hcz5_1 : wr.cell? ⟨gb188, 1, none⟩ = some (.slice A0_1 l0_1.length c0_1) := (qaa BK188.out 1).trans rfl
    have hcz5_2 : wr.cell? ⟨gb188, 2, none⟩ = some (.slice A0_2 l0_2.length c0_2) := (qaa BK188.out 2).trans rfl
    have hfz5_0 := qac BK188.out 0
    have hfz5_1 := qac BK188.out 1
    have hfz5_2 := qac BK188.out 2
    go_wp2
    go_ret
    exact ⟨by first | rfl | (simp [qau, qav] <;> rfl) | (simp [*, qau, qav] <;> rfl), by repeat (first | (with_reducible first | exact HB.out | apply qaf | apply qae | apply qah | refine qai ?_ GE188.out) | exact HB.out)⟩
def talikref04_Fault.f (k : Nat) (l0_0 : List (S39)) (l0_1 : List (S37)) (l0_2 : List (List Int)) (a1 : Int) : Option (Bool) := (talikref04_Sets.f k l0_0 l0_1 l0_2).bind fun t190 => ((talikref04_in.f a1 0 (wrap64 (t190 - 1))).bind fun t191 => (some t191))
theorem talikref04_Fault.calls (k : Nat) (A0_0 : Option Addr) (c0_0 : Nat) (l0_0 : List (S39)) (A0_1 : Option Addr) (c0_1 : Nat) (l0_1 : List (S37)) (A0_2 : Option Addr) (c0_2 : Nat) (l0_2 : List (List Int)) (a1 : Int) (r : Bool) (w : World) (hr0_0 : Kd.C k39 w A0_0 l0_0.length l0_0) (hc0_0 : l0_0.length ≤ c0_0) (hr0_1 : Kd.C k37 w A0_1 l0_1.length l0_1) (hc0_1 : l0_1.length ≤ c0_1) (hr0_2 : Kd.C (Kd.slice 3 (Kd.int .i64)) w A0_2 l0_2.length l0_2) (hc0_2 : l0_2.length ≤ c0_2) (h : talikref04_Fault.f k l0_0 l0_1 l0_2 a1 = some r) :
  Calls Try.prog 26 #[.agg #[.slice A0_0 l0_0.length c0_0, .slice A0_1 l0_1.length c0_1, .slice A0_2 l0_2.length c0_2], .int .i64 a1] w fun e w' => e = .returned (.bool r) ∧ Below w.heap.size w w' := by
 have hu26 := Try.underlying26
 have HR0_0 := qab.mk hr0_0
 have HC0_0 := qab.mk hc0_0
 clear hr0_0 hc0_0
 have HR0_1 := qab.mk hr0_1
 have HC0_1 := qab.mk hc0_1
 clear hr0_1 hc0_1
 have HR0_2 := qab.mk hr0_2
 have HC0_2 := qab.mk hc0_2
 clear hr0_2 hc0_2
 have HB := qab.mk (Below.refl w.heap.size w)
 have H : ((talikref04_Sets.f k l0_0 l0_1 l0_2).bind fun t190 => ((talikref04_in.f a1 0 (wrap64 (t190 - 1))).bind fun t191 => (some t191))) = some r := h
 clear h
 replace H := Option.bind_eq_some_iff.mp H
 obtain ⟨t190, A30, H⟩ := H
 replace H : ((talikref04_in.f a1 0 (wrap64 (t190 - 1))).bind fun t191 => (some t191)) = some r := H
 have A3 := qab.mk A30
 clear A30
 replace H := Option.bind_eq_some_iff.mp H
 obtain ⟨t191, A40, H⟩ := H
 replace H : (some t191) = some r := H
 have A4 := qab.mk A40
 clear A40
 obtain rfl := Option.some.inj H
 go_enter Try.func26, Try.ntmps26
 go_wp2_with (first | ((with_reducible refine qan (N := 2) rfl ?_); refine qam ?hg (N := 2) ?hd (cs := #[.slice A0_0 l0_0.length c0_0, .slice A0_1 l0_1.length c0_1, .slice A0_2 l0_2.length c0_2]) (t := 26) ?hr ?_; (case hd => rfl); (case hg => rfl); (case hr => first | (go_simp; done) | (go_simp; rfl)); intro gb189 hg w5 hbox hb; have n0_ := qab.mk (qad (by repeat (first | (with_reducible first | exact HB.out | apply qaf | apply qae | apply qah) | exact HB.out)) hb); have n1_ := qab.mk (hbox); have n2_ := qab.mk ((by rw [hg]; exact (qap (by repeat (first | (with_reducible first | exact HB.out | apply qaf | apply qae | apply qah) | exact HB.out))) : w.heap.size ≤ gb189)); have n3_ := qab.mk ((by rw [hg]; exact (qap (by repeat (first | (with_reducible first | exact HB.out | apply qaf | apply qae | apply qah) | exact HB.out))) : w.heap.size ≤ gb189)); clear HB; have HB := n0_; have BK189 := n1_; have GW189 := n2_; have GE189 := n3_; clear n0_ n1_ n2_ n3_; clear hb hbox hg; have hcz6_0 : w5.cell? ⟨gb189, 0, none⟩ = some (.slice A0_0 l0_0.length c0_0) := (qaa BK189.out 0).trans rfl; have hcz6_1 : w5.cell? ⟨gb189, 1, none⟩ = some (.slice A0_1 l0_1.length c0_1) := (qaa BK189.out 1).trans rfl; have hcz6_2 : w5.cell? ⟨gb189, 2, none⟩ = some (.slice A0_2 l0_2.length c0_2) := (qaa BK189.out 2).trans rfl; have hfz6_0 := qac BK189.out 0; have hfz6_1 := qac BK189.out 1; have hfz6_2 := qac BK189.out 2) | ((with_reducible refine gate_callee (f := 65) rfl ?_); refine goesL_ (some 7) rfl rfl Try.func65 (by kernel_rfl) rfl #[.agg #[.slice A0_0 l0_0.length c0_0, .slice A0_1 l0_1.length c0_1, .slice A0_2 l0_2.length c0_2]] rfl (by (try simp only [List.map_toArray, List.map_cons, List.map_nil]); first | done | rfl | (simp only [List.length_drop, List.length_take]; rfl)) ?_; (with_reducible refine (talikref04_Sets.calls k _ _ l0_0 _ _ l0_1 _ _ l0_2 t190 _ ?side1 ?side2 ?side3 ?side4 ?side5 ?side6 A3.out).mono ?_); (case side1 => repeat (first | exact (Kd.qaj HR0_0.out HB.out) | (with_reducible refine Kd.C_alloc ?_ _) | (with_reducible refine Kd.C_drewN ?_ _) | (with_reducible refine Kd.C_drew ?_))); (case side2 => exact HC0_0.out); (case side3 => repeat (first | exact (Kd.qaj HR0_1.out HB.out) | (with_reducible refine Kd.C_alloc ?_ _) | (with_reducible refine Kd.C_drewN ?_ _) | (with_reducible refine Kd.C_drew ?_))); (case side4 => exact HC0_1.out); (case side5 => repeat (first | exact (Kd.qaj HR0_2.out HB.out) | (with_reducible refine Kd.C_alloc ?_ _) | (with_reducible refine Kd.C_drewN ?_ _) | (with_reducible refine Kd.C_drew ?_))); (case side6 => exact HC0_2.out); rintro e w7 ⟨rfl, hb⟩; refine ⟨_, rfl, ?_⟩; have n0_ := qab.mk (qag (g := gb189) (o := .cells #[.slice A0_0 l0_0.length c0_0, .slice A0_1 l0_1.length c0_1, .slice A0_2 l0_2.length c0_2] 26 (0, 0)) (by (with_reducible repeat (first | refine qao ?_ _ | refine qaq ?_ | refine qak ?_ _)); exact BK189.out) hb); have n1_ := qab.mk (qad (by repeat (first | (with_reducible first | exact HB.out | apply qaf | apply qae | apply qah | refine qai ?_ GE189.out) | exact HB.out)) hb); clear BK189; clear HB; have BK189 := n0_; have HB := n1_; clear n0_ n1_; (try clear hb); (try clear hb2); (try clear hk); (try clear hi)) | ((with_reducible refine gate_callee (f := 60) rfl ?_); refine goesL_ (some 9) rfl rfl Try.func60 (by kernel_rfl) rfl #[.int .i64 a1, .int .i64 0, .int .i64 (wrap64 (t190 - 1))] rfl (by (try simp only [List.map_toArray, List.map_cons, List.map_nil]); first | done | rfl | (simp only [List.length_drop, List.length_take]; rfl)) ?_; (with_reducible refine (talikref04_in.calls a1 0 (wrap64 (t190 - 1)) t191 _ A4.out).mono ?_); rintro e w' ⟨rfl, ⟨nd, rfl⟩⟩; refine ⟨_, rfl, ?_⟩))
 go_ret
 exact ⟨by first | rfl | (simp [qau, qav] <;> rfl) | (simp [*, qau, qav] <;> rfl), by repeat (first | (with_reducible first | exact HB.out | apply qaf | apply qae | apply qah | refine qai ?_ GE189.out) | exact HB.out)⟩
end Go.Proofs.Ytipphcjgdebecaa.PA
