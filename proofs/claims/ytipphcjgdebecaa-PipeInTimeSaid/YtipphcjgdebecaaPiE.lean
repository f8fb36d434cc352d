/- What functions of the program answer. No condition. -/
import Derived.RangeFuncNested
import Derived.RangeFuncBound
import Derived.RangeFuncCalls
import Derived.RangeFuncLeaves
import Derived.RangeFuncBox
import Derived.Shelf.Abstract
import Derived.Shelf.RegionOpen
import Derived.OwnWalkIn
import Derived.TacticsInMore
import Derived.LoopNIn
import Derived.LoopIn
import Derived.Recover
import Derived.Defers
import Derived.WalkLawsBesides
import Derived.WalkSmall
import Derived.Test.YtipphcjgdebecaaPiC
import Derived.Test.YtipphcjgdebecaaSC
import Derived.Test.YtipphcjgdebecaaSE
import Derived.Test.YtipphcjgdebecaaSH
import Derived.Test.YtipphcjgdebecaaPiA
import Derived.Test.YtipphcjgdebecaaSF
import Derived.Test.YtipphcjgdebecaaPiD
import Derived.Test.YtipphcjgdebecaaSG
set_option linter.all false
set_option maxRecDepth 100000
set_option maxHeartbeats 8000000
namespace Go.Proofs.Ytipphcjgdebecaa.PA
open Go.RowKit Go.Shelf Go.Proofs.YtipphcjgdebecaaW.PrintWords Go.Proofs.YtipphcjgdebecaaW.PrintLast Go.Proofs.YtipphcjgdebecaaW.PrintMore
attribute [local go_sem] max2_int min2_int max_two min_two qas qat max_four min_four
def partV (a b p : Int) : Int := a + (b - a) * p / 100
theorem part_bd {a b p : Int} (h : a ≤ b) (p0 : 0 ≤ p) (p1 : p ≤ 100) : a ≤ partV a b p ∧ partV a b p ≤ b := by
 have h1 : 0 ≤ (b - a) * p := Int.mul_nonneg (by omega) p0
 have h2 : (b - a) * p ≤ (b - a) * 100 := Int.mul_le_mul_of_nonneg_left p1 (by omega)
 unfold partV
 omega
theorem part_eq {a b p : Int} (a0 : 0 ≤ a) (h : a ≤ b) (b1 : b ≤ 1000) (p0 : 0 ≤ p) (p1 : p ≤ 100) : taliklaw04_part.f a b p = some (partV a b p) := by
 have h1 : 0 ≤ (b - a) * p := Int.mul_nonneg (by omega) p0
 have h2 : (b - a) * p ≤ (b - a) * 100 := Int.mul_le_mul_of_nonneg_left p1 (by omega)
 have h3 := part_bd h p0 p1
 unfold taliklaw04_part.f
 rw [wrap_id (x := b - a) (by omega) (by omega), wrap_id (x := (b - a) * p) (by omega) (by omega), Int.tdiv_eq_ediv_of_nonneg h1, wrap_id (x := (b - a) * p / 100) (by omega) (by omega)]
 unfold partV at h3 ⊢
 rw [wrap_id (by omega) (by omega)]
structure Percents (l : List Int) : Prop where
 len : 1 ≤ l.length ∧ l.length ≤ 200
 all : ∀ x ∈ l, 0 ≤ x ∧ x ≤ 100
def percB : List Int → Bool → Bool
 | [], b => b
 | x :: t, b => if x < 0 then false else if x > 100 then false else percB t b
theorem percB_iff : ∀ (t : List Int) (b : Bool), percB t b = true ↔ (∀ x ∈ t, 0 ≤ x ∧ x ≤ 100) ∧ b = true
 | [], b => by simp [percB]
 | x :: t, b => by
  unfold percB
  by_cases h1 : x < 0
  ·
   rw [if_pos h1]
   constructor
   ·
    intro h; cases h
   ·
    rintro ⟨h, _⟩
    have := (h x (by simp)).1
    omega
  ·
   by_cases h2 : x > 100
   ·
    rw [if_neg h1, if_pos h2]
    constructor
    ·
     intro h; cases h
    ·
     rintro ⟨h, _⟩
     have := (h x (by simp)).2
     omega
   ·
    rw [if_neg h1, if_neg h2, percB_iff t b]
    simp only [List.mem_cons, forall_eq_or_imp]
    constructor
    ·
     rintro ⟨h, hb⟩
     exact ⟨⟨by omega, h⟩, hb⟩
    ·
     rintro ⟨⟨_, h⟩, hb⟩
     exact ⟨h, hb⟩
theorem perc_go (l : List Int) (hl : l.length ≤ 9223372036854775807) : ∀ (m j k : Nat), j + m = l.length → m + 1 ≤ k → ∃ b, taliklaw04_percents.l0 k l (j : Int) = some b ∧ (b = percB (l.drop j) (decide (1 ≤ l.length ∧ l.length ≤ 200))) := by
 intro m
 induction m with
 | zero =>
  intro j k hj hk
  obtain ⟨k, rfl⟩ : ∃ k', k = k' + 1 := ⟨k - 1, by omega⟩
  unfold taliklaw04_percents.l0
  rw [if_neg (by omega), List.drop_eq_nil_of_le (by omega)]
  by_cases h1 : (l.length : Int) ≥ 1
  ·
   rw [if_pos h1]
   refine ⟨_, rfl, ?_⟩
   unfold percB
   rw [decide_eq_decide]
   omega
  ·
   rw [if_neg h1]
   refine ⟨_, rfl, ?_⟩
   unfold percB
   exact (decide_eq_false (by omega)).symm
 | succ m ih =>
  intro j k hj hk
  obtain ⟨k, rfl⟩ : ∃ k', k = k' + 1 := ⟨k - 1, by omega⟩
  have hlt : j < l.length := by omega
  have hw : wrap64 ((j : Int) + 1) = ((j + 1 : Nat) : Int) := by rw [wrap_id (by omega) (by omega)]; omega
  unfold taliklaw04_percents.l0
  rw [if_pos (by omega), if_pos (by omega), rd_at l j hlt, List.drop_eq_getElem_cons hlt, hw]
  unfold percB
  by_cases c1 : l[j] < 0
  ·
   rw [if_pos c1, if_pos c1]
   exact ⟨_, rfl, rfl⟩
  ·
   rw [if_neg c1, if_neg c1]
   by_cases c2 : l[j] > 100
   ·
    rw [if_pos c2, if_pos c2]
    exact ⟨_, rfl, rfl⟩
   ·
    rw [if_neg c2, if_neg c2]
    exact ih (j + 1) k (by omega) (by omega)
theorem percents_some (l : List Int) (hl : l.length ≤ 9223372036854775807) : ∃ b, taliklaw04_percents.f (l.length + 1) l = some b ∧ (b = true → Percents l) := by
 obtain ⟨b, h1, h2⟩ := perc_go l hl l.length 0 (l.length + 1) (by omega) (by omega)
 refine ⟨b, h1, fun hb => ?_⟩
 rw [hb] at h2
 have h3 := (percB_iff _ _).1 h2.symm
 simp only [List.drop_zero, decide_eq_true_eq] at h3
 exact ⟨h3.2, h3.1⟩
def whL (wh : List Int) (j : Nat) : Int := rd wh ((j % wh.length : Nat) : Int)
theorem whL_bd {wh : List Int} (h : Percents wh) (j : Nat) : 0 ≤ whL wh j ∧ whL wh j ≤ 100 := by
 have h1 : j % wh.length < wh.length := Nat.mod_lt _ h.len.1
 unfold whL
 rw [rd_at wh _ h1]
 exact h.all _ (List.getElem_mem h1)
def truthL (L : S39) (l1 : List S37) (wh : List Int) (n : Nat) : List S44 := (List.range n).map fun h : Nat => ⟨partV L.f1.f0 L.f1.f1 (whL wh (2 * h + 1)), partV (rd_T37 l1 h).f0 (rd_T37 l1 h).f1 (whL wh (2 * h + 2)), false⟩
theorem truthL_succ (L : S39) (l1 : List S37) (wh : List Int) (n : Nat) : truthL L l1 wh (n + 1) = truthL L l1 wh n ++ [⟨partV L.f1.f0 L.f1.f1 (whL wh (2 * n + 1)), partV (rd_T37 l1 n).f0 (rd_T37 l1 n).f1 (whL wh (2 * n + 2)), false⟩] := by simp [truthL, List.range_succ]
theorem truthL_length (L : S39) (l1 : List S37) (wh : List Int) (n : Nat) : (truthL L l1 wh n).length = n := by simp [truthL]
section
variable {l0 : List S39} {l1 : List S37} {l2 : List (List Int)}
theorem truth_go (hN : NetOk l0 l1 l2) {wh : List Int} (hw : Percents wh) (i : Int) (i0 : 0 ≤ i) (i1 : i < l0.length) (n : Nat) (hn : n ≤ l1.length) :
  ∀ (m j k : Nat), j + m = n → m + 1 ≤ k → taliklaw04_truth.l0 k i (n : Int) wh (truthL (qaj l0 i) l1 wh j) (j : Int) l0 l1 l2 = some (truthL (qaj l0 i) l1 wh n) := by
 have hh := hN.h1
 have hL := hN.loops _ (rdT39_mem i0 i1)
 have hwl := hw.len
 intro m
 induction m with
 | zero =>
  intro j k hj hk
  obtain ⟨k, rfl⟩ : ∃ k', k = k' + 1 := ⟨k - 1, by omega⟩
  obtain rfl : j = n := by omega
  unfold taliklaw04_truth.l0
  rw [if_neg (by omega)]
 | succ m ih =>
  intro j k hj hk
  obtain ⟨k, rfl⟩ : ∃ k', k = k' + 1 := ⟨k - 1, by omega⟩
  have hr := ih (j + 1) k (by omega) (by omega)
  rw [truthL_succ] at hr
  have e1 : Int.tmod (wrap64 (wrap64 (2 * (j : Int)) + 1)) (wh.length : Int) = (((2 * j + 1) % wh.length : Nat) : Int) := by
   rw [wrap_id (x := 2 * (j : Int)) (by omega) (by omega), wrap_id (by omega) (by omega), show (2 * (j : Int) + 1) = ((2 * j + 1 : Nat) : Int) from by omega, Int.ofNat_tmod]
  have e2 : Int.tmod (wrap64 (wrap64 (2 * (j : Int)) + 2)) (wh.length : Int) = (((2 * j + 2) % wh.length : Nat) : Int) := by
   rw [wrap_id (x := 2 * (j : Int)) (by omega) (by omega), wrap_id (by omega) (by omega), show (2 * (j : Int) + 2) = ((2 * j + 2 : Nat) : Int) from by omega, Int.ofNat_tmod]
  have m1 : (2 * j + 1) % wh.length < wh.length := Nat.mod_lt _ hwl.1
  have m2 : (2 * j + 2) % wh.length < wh.length := Nat.mod_lt _ hwl.1
  have b1 := whL_bd hw (2 * j + 1)
  have b2 := whL_bd hw (2 * j + 2)
  have hf := frost_at hN j (by omega)
  have k2 := hL.k2
  unfold taliklaw04_truth.l0
  rw [if_pos (by omega), if_pos i0, if_pos i1, if_neg (by omega), e1, e2, if_pos (by omega), if_pos (by omega)]
  rw [show taliklaw04_part.f (qaj l0 i).f1.f0 (qaj l0 i).f1.f1 (rd wh (((2 * j + 1) % wh.length : Nat) : Int)) = some (partV (qaj l0 i).f1.f0 (qaj l0 i).f1.f1 (whL wh (2 * j + 1))) from part_eq hL.k0 hL.k1 hL.k2 b1.1 b1.2]
  simp only [Option.bind_some]
  rw [if_pos (by omega), if_pos (by omega), if_pos (by omega), if_pos (by omega)]
  rw [show taliklaw04_part.f (rd_T37 l1 (j : Int)).f0 (rd_T37 l1 (j : Int)).f1 (rd wh (((2 * j + 2) % wh.length : Nat) : Int)) = some (partV (rd_T37 l1 (j : Int)).f0 (rd_T37 l1 (j : Int)).f1 (whL wh (2 * j + 2))) from part_eq hf.1 hf.2.1 hf.2.2 b2.1 b2.2]
  simp only [Option.bind_some]
  rw [truthL_length, if_pos (by omega), wsucc j (by omega)]
  exact hr
theorem truth_eq (hN : NetOk l0 l1 l2) {wh : List Int} (hw : Percents wh) (i : Int) (i0 : 0 ≤ i) (i1 : i < l0.length) (n : Nat) (hn : n ≤ l1.length) (k : Nat) (hk : 80 ≤ k) : taliklaw04_truth.f k l0 l1 l2 i (n : Int) wh = some (truthL (qaj l0 i) l1 wh n) := by
 have hh := hN.h1
 exact truth_go hN hw i i0 i1 n hn n 0 k (by omega) (by omega)
theorem truth_of {L : S39} : ∀ (t : List S44) (l1 : List S37), t.length ≤ l1.length → (∀ k (h : k < t.length) (h1 : k < l1.length), inB t[k].f0 L.f1.f0 L.f1.f1 = true ∧ inB t[k].f1 l1[k].f0 l1[k].f1 = true) → truthB L t l1 = true
 | [], l1, _, _ => by cases l1 <;> rfl
 | T :: ts, [], h, _ => by simp at h
 | T :: ts, F :: fs, h, hp => by
  have h0 := hp 0 (by simp) (by simp)
  simp only [List.getElem_cons_zero] at h0
  have ih := truth_of ts fs (by simpa using h) (fun k hk h1 => by
   have := hp (k + 1) (by simpa using hk) (by simpa using h1)
   simpa using this)
  simp only [truthB, h0.1, h0.2, ih, Bool.and_self]
theorem inB_of {x a b : Int} (h0 : a ≤ x) (h1 : x ≤ b) : inB x a b = true := by
 unfold inB
 simp [h0, h1]
theorem truthL_truth (hN : NetOk l0 l1 l2) {L : S39} (hL : LoopOk L) {wh : List Int} (hw : Percents wh) (n : Nat) (hn : n ≤ l1.length) : truthB L (truthL L l1 wh n) l1 = true := by
 refine truth_of _ _ (by rw [truthL_length]; exact hn) (fun k h h1 => ?_)
 have hf := hN.frost _ (List.getElem_mem h1)
 have e := rdT37_at l1 k h1
 have : (truthL L l1 wh n)[k] = ⟨partV L.f1.f0 L.f1.f1 (whL wh (2 * k + 1)), partV (rd_T37 l1 k).f0 (rd_T37 l1 k).f1 (whL wh (2 * k + 2)), false⟩ := by simp [truthL]
 rw [this, e]
 have p1 := part_bd (a := L.f1.f0) (b := L.f1.f1) hL.k1 (whL_bd hw (2 * k + 1)).1 (whL_bd hw (2 * k + 1)).2
 have p2 := part_bd (a := l1[k].f0) (b := l1[k].f1) hf.2.1 (whL_bd hw (2 * k + 2)).1 (whL_bd hw (2 * k + 2)).2
 exact ⟨inB_of p1.1 p1.2, inB_of p2.1 p2.2⟩
theorem truthL_unfed (hN : NetOk l0 l1 l2) {L : S39} (hL : LoopOk L) {wh : List Int} (hw : Percents wh) (n : Nat) (hn : n ≤ l1.length) : ∀ T ∈ truthL L l1 wh n, Unfed T := by
 intro T hT
 unfold truthL at hT
 simp only [List.mem_map, List.mem_range] at hT
 obtain ⟨h, hh, rfl⟩ := hT
 have hf := frost_at hN h (by omega)
 have k0 := hL.k0
 have k2 := hL.k2
 have p1 := part_bd (a := L.f1.f0) (b := L.f1.f1) hL.k1 (whL_bd hw (2 * h + 1)).1 (whL_bd hw (2 * h + 1)).2
 have p2 := part_bd (a := (rd_T37 l1 (h : Int)).f0) (b := (rd_T37 l1 (h : Int)).f1) hf.2.1 (whL_bd hw (2 * h + 2)).1 (whL_bd hw (2 * h + 2)).2
 refine ⟨rfl, ?_, ?_, ?_, ?_⟩ <;> dsimp only <;> omega
theorem play_unfed (hv : validB l0 l1 l2 = true) (i : Int) (i0 : 0 ≤ i) (i1 : i < l0.length) (w : Int) (w0 : (qaj l0 i).f0.f0 ≤ w) (w1 : w ≤ (qaj l0 i).f0.f1) (t : List S44) (hl : t.length ≤ l1.length) (ht : truthB (qaj l0 i) t l1 = true) (hu : ∀ T ∈ t, Unfed T) :
  ∃ b g s, playV l0 l1 l2 i w t = (coldL w t, b, g, s, 0) := by
 have hN := net_ok hv
 have hh := hN.h1
 have hL := hN.loops _ (rdT39_mem i0 i1)
 have hi := (isloop_iff hN i).2 ⟨i0, i1⟩
 have x0 := hL.w0
 have x2 := hL.w2
 obtain ⟨hg, _⟩ := playGo_yes _ hL t l1 (w, 0, 0, 0) 0 ht hN.frost (by omega) ⟨by dsimp only; omega, by dsimp only; omega, by dsimp only; omega, by dsimp only; omega, by dsimp only; omega, by dsimp only; omega, by dsimp only; omega, by dsimp only; omega⟩
 have hp := play_cold (qaj l0 i) t (w, 0, 0, 0) hu (by dsimp only; omega) (by dsimp only; omega)
 refine ⟨(t.foldl (fun x T => stepR (qaj l0 i) T x) (w, 0, 0, 0)).2.1, (t.foldl (fun x T => stepR (qaj l0 i) T x) (w, 0, 0, 0)).2.2.1, (t.foldl (fun x T => stepR (qaj l0 i) T x) (w, 0, 0, 0)).2.2.2, ?_⟩
 unfold playV
 rw [if_neg (by omega), hv, hi, inB_of w0 w1, hg]
 simp only [Bool.and_self, if_true, heatR]
 rw [hp]
theorem truth_between (hN : NetOk l0 l1 l2) {L : S39} (hL : LoopOk L) {wh : List Int} (hw : Percents wh) (w : Int) (w0 : L.f0.f0 ≤ w) (w1 : w ≤ L.f0.f1) :
  ∀ n : Nat, n ≤ l1.length → lowW L l1 n ≤ coldL w (truthL L l1 wh n) ∧ coldL w (truthL L l1 wh n) ≤ highW L l1 n := by
 intro n
 induction n with
 | zero => intro _; exact ⟨w0, w1⟩
 | succ n ih =>
  intro hn
  obtain ⟨h1, h2⟩ := ih (by omega)
  have hf := frost_at hN n (by omega)
  have hl := low_bd hN hL n (by omega)
  have p1 := part_bd (a := L.f1.f0) (b := L.f1.f1) hL.k1 (whL_bd hw (2 * n + 1)).1 (whL_bd hw (2 * n + 1)).2
  have p2 := part_bd (a := (rd_T37 l1 (n : Int)).f0) (b := (rd_T37 l1 (n : Int)).f1) hf.2.1 (whL_bd hw (2 * n + 2)).1 (whL_bd hw (2 * n + 2)).2
  have k0 := hL.k0
  have k2 := hL.k2
  rw [low_succ, high_succ, truthL_succ, coldL_append]
  exact ⟨cold_mono k2 p1.2 (Int.le_trans k0 p1.1) p2.2 (Int.le_trans hf.1 p2.1) hl.1 h1, cold_mono (Int.le_trans p1.2 k2) p1.1 k0 p2.1 hf.1 (Int.le_trans hl.1 h1) h2⟩
theorem frz_can : ∀ (t : List S37) (h can : Int), 0 ≤ h → (∀ s ∈ t, 0 ≤ s.f0 ∧ s.f0 ≤ s.f1) →
  (0 ≤ can → (frz t h can).1 = can) ∧ (can < 0 → ∀ k (hk : k < t.length), t[k].f0 = 0 → 0 ≤ (frz t h can).1 ∧ (frz t h can).1 ≤ h + k + 1)
 | [], h, can, _, _ => ⟨fun _ => rfl, fun _ k hk => by simp at hk⟩
 | s :: t, h, can, h0, hs => by
  have h1 := hs s (by simp)
  unfold frz
  constructor
  ·
   intro hc
   have e : (if s.f0 = 0 ∧ can < 0 then h + 1 else can) = can := if_neg (by omega)
   rw [e]
   split
   ·
    rfl
   ·
    exact (frz_can t (h + 1) can (by omega) (fun x hx => hs x (by simp [hx]))).1 hc
  ·
   intro hc k hk hz
   cases k with
   | zero =>
    have hz' : s.f0 = 0 := hz
    have e : (if s.f0 = 0 ∧ can < 0 then h + 1 else can) = h + 1 := if_pos ⟨hz', hc⟩
    rw [e]
    split
    ·
     dsimp only; omega
    ·
     have := (frz_can t (h + 1) (h + 1) (by omega) (fun x hx => hs x (by simp [hx]))).1 (by omega)
     omega
   | succ k =>
    have hz' : (t[k]'(by simpa using hk)).f0 = 0 := by simpa using hz
    by_cases hs1 : s.f1 = 0
    ·
     have e : (if s.f0 = 0 ∧ can < 0 then h + 1 else can) = h + 1 := if_pos ⟨by omega, hc⟩
     rw [if_pos hs1, e]
     dsimp only
     omega
    ·
     rw [if_neg hs1]
     by_cases hs0 : s.f0 = 0
     ·
      rw [if_pos ⟨hs0, hc⟩]
      have := (frz_can t (h + 1) (h + 1) (by omega) (fun x hx => hs x (by simp [hx]))).1 (by omega)
      omega
     ·
      rw [if_neg (fun h => hs0 h.1)]
      have := (frz_can t (h + 1) can (by omega) (fun x hx => hs x (by simp [hx]))).2 hc k (by simpa using hk) hz'
      push_cast
      omega
theorem rowW_at (L : S39) (l1 : List S37) (n k : Nat) (hk : k < (rowW L l1 n).length) : (rowW L l1 n)[k] = ⟨lowW L l1 (k + 1), highW L l1 (k + 1)⟩ := by simp [rowW]
theorem can_le (hv : validB l0 l1 l2 = true) (i : Int) (i0 : 0 ≤ i) (i1 : i < l0.length) (n : Nat) (hn0 : 1 ≤ n) (hn : n ≤ l1.length) (hz : lowW (qaj l0 i) l1 n = 0) : 1 ≤ canV l0 l1 i ∧ canV l0 l1 i ≤ n := by
 have hN := net_ok hv
 have hL := hN.loops _ (rdT39_mem i0 i1)
 have h := (frz_can (rowW (qaj l0 i) l1 l1.length) 0 (-1) (Int.le_refl _) (rowW_ok hN hL)).2 (by decide) (n - 1) (by rw [rowW_length]; omega) (by rw [rowW_at]; rw [show n - 1 + 1 = n from by omega]; exact hz)
 have hb := can_bd l0 l1 i
 have e : canV l0 l1 i = (frz (rowW (qaj l0 i) l1 l1.length) 0 (-1)).1 := by unfold canV; rw [warmthV_eq hN i i0 i1]
 rw [← e] at h
 omega
end
section
variable {l0 : List S39} {l1 : List S37} {l2 : List (List Int)}
theorem warm_due (hv : validB l0 l1 l2 = true) (i : Int) (i0 : 0 ≤ i) (i1 : i < l0.length) (n : Nat) (hn : (n : Int) ≤ dueI l0 l1 i) : 0 < lowW (qaj l0 i) l1 n ∧ n ≤ l1.length := by
 have hN := net_ok hv
 have hL := hN.loops _ (rdT39_mem i0 i1)
 have hb := can_bd l0 l1 i
 have hnl : n ≤ l1.length := by
  unfold dueI at hn
  split at hn <;> omega
 refine ⟨?_, hnl⟩
 have hw0 := hL.w0
 rcases Nat.eq_zero_or_pos n with rfl | hp
 ·
  show 0 < (qaj l0 i).f0.f0
  omega
 ·
  have hl := low_bd hN hL n hnl
  by_cases hz : lowW (qaj l0 i) l1 n = 0
  ·
   have hc := can_le hv i i0 i1 n hp hnl hz
   unfold dueI at hn
   rw [if_neg (by omega)] at hn
   omega
  ·
   omega
theorem percents_true {l : List Int} (h : Percents l) : taliklaw04_percents.f (l.length + 1) l = some true := by
 obtain ⟨b, h1, h2⟩ := perc_go l (by have := h.len; omega) l.length 0 (l.length + 1) (by omega) (by omega)
 have : b = true := by rw [h2]; exact (percB_iff _ _).2 ⟨by simpa using h.all, decide_eq_true h.len⟩
 subst this
 exact h1
structure StI (l0 : List S39) (l1 : List S37) (l2 : List (List Int)) (o : List Int) (k : Nat) (p h H : Int) : Prop where
 p0 : 0 ≤ p
 p1 : p ≤ l0.length
 h0 : 0 ≤ h
 hH : h ≤ H
 Hb : H ≤ 200 * k
 s : 0 ≤ sl l0 l2 (duesI l0 l1) l1.length p H (o.drop k)
def pct (x q : Int) : Int := x * q / 100
theorem pct_bd {x q : Int} (x0 : 0 ≤ x) (q0 : 0 ≤ q) (q1 : q ≤ 100) : 0 ≤ pct x q ∧ pct x q ≤ x := by
 have h1 : 0 ≤ x * q := Int.mul_nonneg x0 q0
 have h2 : x * q ≤ x * 100 := Int.mul_le_mul_of_nonneg_left q1 x0
 unfold pct
 omega
theorem pct_wrap {x q : Int} (x0 : 0 ≤ x) (x1 : x ≤ 72) (q0 : 0 ≤ q) (q1 : q ≤ 100) : wrap64 ((wrap64 (x * q)).tdiv 100) = pct x q := by
 have h1 : 0 ≤ x * q := Int.mul_nonneg x0 q0
 have h2 : x * q ≤ x * 100 := Int.mul_le_mul_of_nonneg_left q1 x0
 unfold pct
 rw [wrap_id (x := x * q) (by omega) (by omega), Int.tdiv_eq_ediv_of_nonneg h1, wrap_id (by omega) (by omega)]
theorem st_step (hv : validB l0 l1 l2 = true) {o : List Int} {k : Nat} {p h H : Int} (hs : StI l0 l1 l2 o k p h H) (hk : k < o.length) (x0 : 0 ≤ o[k]) (x1 : o[k] < l0.length) (q1 q2 : Int) (a0 : 0 ≤ q1) (a1 : q1 ≤ 100) (b0 : 0 ≤ q2) (b1 : q2 ≤ 100) :
  StI l0 l1 l2 o (k + 1) (o[k] + 1) (h + pct (rd (rd_L1 l2 p) (o[k] + 1)) q1 + max (qaj l0 o[k]).f7.f0 (pct (qaj l0 o[k]).f7.f1 q2)) (H + rd (rd_L1 l2 p) (o[k] + 1) + (qaj l0 o[k]).f7.f1) ∧
   h + pct (rd (rd_L1 l2 p) (o[k] + 1)) q1 + max (qaj l0 o[k]).f7.f0 (pct (qaj l0 o[k]).f7.f1 q2) ≤ dueI l0 l1 o[k] := by
 have hN := net_ok hv
 have hB := bok hN
 have hL := hN.loops _ (rdT39_mem x0 x1)
 have hw := hB.ways p o[k] hs.p0 hs.p1 x0 x1
 have hx0 := hL.x0
 have hx1 := hL.x1
 have hx2 := hL.x2
 have c1 := pct_bd hw.1 a0 a1
 have c2 := pct_bd (show 0 ≤ (qaj l0 o[k]).f7.f1 by omega) b0 b1
 have h1 := hs.s
 have h2 := hs.h0
 have h3 := hs.hH
 have h4 := hs.Hb
 rw [List.drop_eq_getElem_cons hk] at h1
 simp only [sl] at h1
 rw [rd_duesI l0 l1 _ x0 x1] at h1
 refine ⟨⟨by omega, by omega, by omega, by omega, by omega, by omega⟩, by omega⟩
theorem in_time (hv : validB l0 l1 l2 = true) {wh : List Int} (hw : Percents wh) (i : Int) (i0 : 0 ≤ i) (i1 : i < l0.length) (n : Nat) (hn : (n : Int) ≤ dueI l0 l1 i) (p : Int) (p0 : 0 ≤ p) (p1 : p ≤ 100) :
  ∃ x b g s, 0 < x ∧ playV l0 l1 l2 i (partV (qaj l0 i).f0.f0 (qaj l0 i).f0.f1 p) (truthL (qaj l0 i) l1 wh n) = (x, b, g, s, 0) := by
 have hN := net_ok hv
 have hL := hN.loops _ (rdT39_mem i0 i1)
 obtain ⟨hlo, hnl⟩ := warm_due hv i i0 i1 n hn
 have hpw := part_bd hL.w1 p0 p1
 obtain ⟨b, g, s, h⟩ := play_unfed hv i i0 i1 _ hpw.1 hpw.2 (truthL (qaj l0 i) l1 wh n) (by rw [truthL_length]; exact hnl) (truthL_truth hN hL hw n hnl) (truthL_unfed hN hL hw n hnl)
 have hbet := truth_between hN hL hw _ hpw.1 hpw.2 n hnl
 exact ⟨_, b, g, s, by omega, h⟩
end
end Go.Proofs.Ytipphcjgdebecaa.PA
