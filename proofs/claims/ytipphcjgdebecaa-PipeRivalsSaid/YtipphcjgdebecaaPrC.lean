/- Parts of a proof about the pipe seat's laws: what the functions of the program answer. No condition of its own. -/
import Derived.Test.YtipphcjgdebecaaSC
import Derived.Test.YtipphcjgdebecaaSD
import Derived.Test.YtipphcjgdebecaaSF
import Derived.Test.YtipphcjgdebecaaPrA
import Derived.Test.YtipphcjgdebecaaPrB
import Derived.Test.YtipphcjgdebecaaSG
import Derived.Test.YtipphcjgdebecaaSO
import Derived.Deep.Slices
import Derived.Lib.SmallJoins
import Derived.ChangeOld
import Derived.ProofKit
import Derived.RangeFuncNested
import Derived.RangeFuncBound
import Derived.RangeFuncCalls
import Derived.RangeFuncLeaves
import Derived.RangeFuncBox
import Derived.Shelf.Abstract
import Derived.Shelf.RegionOpen
import Derived.OwnWalkIn
import Derived.TacticsInMore
import Derived.LoopNIn
import Derived.LoopIn
import Derived.Recover
import Derived.Defers
import Derived.WalkLawsBesides
import Derived.WalkSmall
import Derived.Test.YtipphcjgdebecaaSE
import Derived.Test.YtipphcjgdebecaaSH
set_option linter.all false
namespace Go.Proofs.Ytipphcjgdebecaa.PA
open Go.RowKit Go.Proofs.YtipphcjgdebecaaW.PrintWords Go.Proofs.YtipphcjgdebecaaW.PrintLast Go.Proofs.YtipphcjgdebecaaW.PrintMore
attribute [local go_sem] max2_int min2_int max_two min_two max_three min_three max_four min_four
theorem wsucc (i : Nat) (h : i ≤ 1000000) : wrap64 ((i : Int) + 1) = ((i + 1 : Nat) : Int) := by unfold wrap64; omega
def shortB (l0 : List S39) (l1 : List S37) (l2 : List (List Int)) : Bool := (l2.take 10).all (fun r => decide (r.length ≤ 10)) && (decide (l0.length ≤ 8) && (decide (l1.length ≤ 77) && decide (l2.length ≤ 10)))
theorem short_end (l0 : List S39) (l1 : List S37) (l2 : List (List Int)) (i : Int) (k : Nat) : taliklaw04_short.j1 (k + 1) i false l0 l1 l2 = some (decide (l0.length ≤ 8) && (decide (l1.length ≤ 77) && decide (l2.length ≤ 10))) := by
 unfold taliklaw04_short.j1
 rw [if_neg (by decide)]
 by_cases h0 : l0.length ≤ 8
 ·
  rw [if_pos (by omega)]
  by_cases h1 : l1.length ≤ 77
  ·
   rw [if_pos (by omega)]
   simp [h0, h1]
   omega
  ·
   rw [if_neg (by omega)]
   simp [h1]
 ·
  rw [if_neg (by omega)]
  simp [h0]
theorem rd_L1_at (l2 : List (List Int)) (i : Nat) (h : i < l2.length) : rd_L1 l2 (i : Int) = l2[i] := by simp [rd_L1, h]
theorem short_go (l0 : List S39) (l1 : List S37) (l2 : List (List Int)) : ∀ (m i k : Nat), i + m = 10 → 2 * m + 2 ≤ k → taliklaw04_short.l0 k (i : Int) l0 l1 l2 = some (((l2.drop i).take m).all (fun r => decide (r.length ≤ 10)) && (decide (l0.length ≤ 8) && (decide (l1.length ≤ 77) && decide (l2.length ≤ 10)))) := by
 intro m
 induction m with
 | zero =>
  intro i k hi hk
  obtain ⟨k, rfl⟩ : ∃ k', k = k' + 2 := ⟨k - 2, by omega⟩
  unfold taliklaw04_short.l0
  have hd : decide ((i : Int) < 10) = false := by simp; omega
  rw [hd, short_end]
  simp
 | succ m ih =>
  intro i k hi hk
  obtain ⟨k, rfl⟩ : ∃ k', k = k' + 2 := ⟨k - 2, by omega⟩
  unfold taliklaw04_short.l0
  by_cases hlt : i < l2.length
  ·
   have hd : decide ((i : Int) < 10) = true := by simp; omega
   rw [if_pos (by omega), hd]
   unfold taliklaw04_short.j1
   rw [if_pos rfl, if_pos (by omega), if_pos (by omega), rd_L1_at l2 i hlt, List.drop_eq_getElem_cons hlt, List.take_succ_cons, List.all_cons]
   by_cases hr : l2[i].length ≤ 10
   ·
    rw [if_neg (by omega), wsucc i (by omega), ih (i + 1) k (by omega) (by omega)]
    simp [hr]
   ·
    rw [if_pos (by omega)]
    simp [hr]
  ·
   rw [if_neg (by omega), short_end, List.drop_eq_nil_of_le (by omega)]
   simp
theorem short_eq (l0 : List S39) (l1 : List S37) (l2 : List (List Int)) (k : Nat) (hk : 22 ≤ k) : taliklaw04_short.f k l0 l1 l2 = some (shortB l0 l1 l2) := short_go l0 l1 l2 10 0 k rfl (by omega)
structure Short (l0 : List S39) (l1 : List S37) (l2 : List (List Int)) : Prop where
 h0 : l0.length ≤ 8
 h1 : l1.length ≤ 77
 h2 : l2.length ≤ 10
 hr : ∀ i (h : i < l2.length), l2[i].length ≤ 10
theorem short_of {l0 : List S39} {l1 : List S37} {l2 : List (List Int)} (h : shortB l0 l1 l2 = true) : Short l0 l1 l2 := by
 unfold shortB at h
 simp only [Bool.and_eq_true, decide_eq_true_eq] at h
 obtain ⟨h1, h2, h3, h4⟩ := h
 rw [List.take_of_length_le h4, List.all_eq_true] at h1
 exact ⟨h2, h3, h4, fun i hi => by simpa using h1 _ (List.getElem_mem hi)⟩
theorem rspan_eq (s : S37) (lo hi : Int) : talikref04_Span.f s.f0 s.f1 lo hi = some (spanB s lo hi) := by
 unfold talikref04_Span.f spanB
 by_cases h1 : s.f0 ≥ lo <;> by_cases h2 : s.f0 ≤ s.f1 <;> simp [h1, h2]
theorem rin_eq (x lo hi : Int) : talikref04_in.f x lo hi = some (inB x lo hi) := by
 unfold talikref04_in.f inB
 by_cases h : x ≥ lo <;> simp [h]
theorem rloop_eq (l : S39) : talikref04_Loop.f l.f0.f0 l.f0.f1 l.f1.f0 l.f1.f1 l.f2.f0 l.f2.f1 l.f3 l.f4 l.f5 l.f6 l.f7.f0 l.f7.f1 = some (loopB l) := by
 unfold talikref04_Loop.f loopB
 rw [rspan_eq l.f0, rspan_eq l.f1, rspan_eq l.f2, rspan_eq l.f7, rin_eq, rin_eq, rin_eq, rin_eq]
 simp only [Option.bind_some]
 cases spanB l.f0 1 1000 <;> cases spanB l.f1 0 1000 <;> cases spanB l.f2 0 1000 <;> by_cases h1 : l.f2.f0 ≤ l.f1.f0 <;> by_cases h2 : l.f2.f1 ≤ l.f1.f1 <;> simp [h1, h2]
 cases inB l.f3 0 1000000 <;> cases inB l.f4 1 10000 <;> cases inB l.f5 0 1000 <;> cases inB l.f6 0 1000 <;> simp
def chkR (i : Nat) : List Int → Nat → Bool
 | [], _ => true
 | h :: t, j => inB h 0 72 && ((i != j || h == 0) && chkR i t (j + 1))
def rowsR (n : Nat) : List (List Int) → Nat → Bool
 | [], _ => true
 | r :: t, i => decide (r.length = n) && (chkR i r 0 && rowsR n t (i + 1))
def finR (l0 : List S39) (l1 : List S37) (l2 : List (List Int)) : Bool := inB l0.length 1 5 && (inB l1.length 1 72 && decide (l2.length = l0.length + 1))
theorem net3_go (l0 : List S39) (l1 : List S37) (l2 : List (List Int)) (i : Nat) (hi : i < l2.length) (b : Bool) (K : Nat) (hb : ∀ k, K ≤ k → talikref04_Net.l2 k ((i + 1 : Nat) : Int) l0 l1 l2 = some b) (hi6 : i ≤ 1000) (hr : l2[i].length ≤ 1000) :
  ∀ (m j k : Nat), j + m = l2[i].length → m + 1 + K ≤ k → talikref04_Net.l3 k (i : Int) (j : Int) l0 l1 l2 = some (chkR i (l2[i].drop j) j && b) := by
 intro m
 induction m with
 | zero =>
  intro j k hj hk
  obtain ⟨k, rfl⟩ : ∃ k', k = k' + 1 := ⟨k - 1, by omega⟩
  unfold talikref04_Net.l3
  rw [if_pos (by omega), if_pos (by omega), rd_L1_at l2 i hi, if_neg (by omega), wsucc i (by omega), hb k (by omega), List.drop_eq_nil_of_le (by omega)]
  simp [chkR]
 | succ m ih =>
  intro j k hj hk
  obtain ⟨k, rfl⟩ : ∃ k', k = k' + 1 := ⟨k - 1, by omega⟩
  unfold talikref04_Net.l3
  have hjl : j < l2[i].length := by omega
  have hrd : rd l2[i] (j : Int) = l2[i][j] := by simp [rd, hjl]
  rw [if_pos (by omega), if_pos (by omega), rd_L1_at l2 i hi, if_pos (by omega), if_pos (by omega), rin_eq, hrd, wsucc j (by omega), ih (j + 1) k (by omega) (by omega), List.drop_eq_getElem_cons hjl]
  simp only [Option.bind_some, chkR]
  generalize l2[i][j] = h
  cases inB h 0 72
  ·
   simp
  ·
   by_cases he : i = j
   ·
    by_cases h0 : h = 0
    ·
     simp [he, h0]
    ·
     simp [he, h0]
   ·
    have hz : ¬ ((i : Int) = (j : Int)) := by omega
    have hn : (i != j) = true := by simp [he]
    simp [hz, hn]
theorem net2_go (l0 : List S39) (l1 : List S37) (l2 : List (List Int)) (hs : Short l0 l1 l2) :
  ∀ (m i k : Nat), i + m = l2.length → 13 * m + 1 ≤ k → talikref04_Net.l2 k (i : Int) l0 l1 l2 = some (rowsR (l0.length + 1) (l2.drop i) i && finR l0 l1 l2) := by
 have h0 := hs.h0
 have h2 := hs.h2
 have hw : wrap64 ((l0.length : Int) + 1) = ((l0.length + 1 : Nat) : Int) := wsucc _ (by omega)
 intro m
 induction m with
 | zero =>
  intro i k hi hk
  obtain ⟨k, rfl⟩ : ∃ k', k = k' + 1 := ⟨k - 1, by omega⟩
  unfold talikref04_Net.l2
  rw [if_neg (by omega), rin_eq, rin_eq, hw, List.drop_eq_nil_of_le (by omega)]
  simp only [Option.bind_some, rowsR, finR, Bool.true_and]
  have e : ((l2.length : Int) == ((l0.length + 1 : Nat) : Int)) = decide (l2.length = l0.length + 1) := by
   rw [Bool.eq_iff_iff]
   simp
   omega
  rw [e]
  cases inB (l0.length : Int) 1 5 <;> cases inB (l1.length : Int) 1 72 <;> simp
 | succ m ih =>
  intro i k hi hk
  obtain ⟨k, rfl⟩ : ∃ k', k = k' + 1 := ⟨k - 1, by omega⟩
  have hil : i < l2.length := by omega
  have hr := hs.hr i hil
  unfold talikref04_Net.l2
  rw [if_pos (by omega), if_pos (by omega), rd_L1_at l2 i hil, hw, List.drop_eq_getElem_cons hil]
  simp only [rowsR]
  by_cases hl : l2[i].length = l0.length + 1
  ·
   rw [if_pos (by omega), show (0 : Int) = ((0 : Nat) : Int) from rfl, net3_go l0 l1 l2 i hil _ (13 * m + 1) (fun k hk => ih (i + 1) k (by omega) hk) (by omega) (by omega) l2[i].length 0 k (by omega) (by omega)]
   simp [hl, Bool.and_assoc]
  ·
   rw [if_neg (by omega)]
   simp [hl]
theorem net1_go (l0 : List S39) (l1 : List S37) (l2 : List (List Int)) (hs : Short l0 l1 l2) :
  ∀ (m i k : Nat), i + m = l1.length → m + 140 ≤ k → talikref04_Net.l1 k (i : Int) l0 l1 l2 = some ((l1.drop i).all (fun s => spanB s 0 1000) && (rowsR (l0.length + 1) l2 0 && finR l0 l1 l2)) := by
 have h1 := hs.h1
 have h2 := hs.h2
 intro m
 induction m with
 | zero =>
  intro i k hi hk
  obtain ⟨k, rfl⟩ : ∃ k', k = k' + 1 := ⟨k - 1, by omega⟩
  unfold talikref04_Net.l1
  rw [if_neg (by omega), show (0 : Int) = ((0 : Nat) : Int) from rfl, net2_go l0 l1 l2 hs l2.length 0 k (by omega) (by omega), List.drop_zero, show l1.drop i = [] from List.drop_eq_nil_of_le (by omega)]
  simp
 | succ m ih =>
  intro i k hi hk
  obtain ⟨k, rfl⟩ : ∃ k', k = k' + 1 := ⟨k - 1, by omega⟩
  have hil : i < l1.length := by omega
  have e : rd_T37 l1 (i : Int) = l1[i] := by simp [rd_T37, hil]
  unfold talikref04_Net.l1
  rw [if_pos (by omega), if_pos (by omega), e, rspan_eq, wsucc i (by omega), ih (i + 1) k (by omega) (by omega), List.drop_eq_getElem_cons hil]
  simp only [Option.bind_some, List.all_cons]
  cases spanB l1[i] 0 1000 <;> simp
theorem net0_go (l0 : List S39) (l1 : List S37) (l2 : List (List Int)) (hs : Short l0 l1 l2) :
  ∀ (m i k : Nat), i + m = l0.length → m + 230 ≤ k → talikref04_Net.l0 k (i : Int) l0 l1 l2 = some ((l0.drop i).all loopB && (l1.all (fun s => spanB s 0 1000) && (rowsR (l0.length + 1) l2 0 && finR l0 l1 l2))) := by
 have h0 := hs.h0
 have h1 := hs.h1
 intro m
 induction m with
 | zero =>
  intro i k hi hk
  obtain ⟨k, rfl⟩ : ∃ k', k = k' + 1 := ⟨k - 1, by omega⟩
  unfold talikref04_Net.l0
  rw [if_neg (by omega), show (0 : Int) = ((0 : Nat) : Int) from rfl, net1_go l0 l1 l2 hs l1.length 0 k (by omega) (by omega), List.drop_zero, show l0.drop i = [] from List.drop_eq_nil_of_le (by omega)]
  simp
 | succ m ih =>
  intro i k hi hk
  obtain ⟨k, rfl⟩ : ∃ k', k = k' + 1 := ⟨k - 1, by omega⟩
  have hil : i < l0.length := by omega
  have e : qah l0 (i : Int) = l0[i] := by simp [qah, hil]
  unfold talikref04_Net.l0
  rw [if_pos (by omega), if_pos (by omega), e, rloop_eq, wsucc i (by omega), ih (i + 1) k (by omega) (by omega), List.drop_eq_getElem_cons hil]
  simp only [Option.bind_some, List.all_cons]
  cases loopB l0[i] <;> simp
theorem chkR_iff (i : Nat) : ∀ (row : List Int) (j : Nat), chkR i row j = true ↔ (∀ h ∈ row, inB h 0 72 = true) ∧ (∀ n (h : n < row.length), j + n = i → row[n] = 0)
 | [], j => by simp [chkR]
 | h :: t, j => by
  simp only [chkR, Bool.and_eq_true, Bool.or_eq_true, chkR_iff i t (j + 1), bne_iff_ne, ne_eq, beq_iff_eq, List.mem_cons, forall_eq_or_imp]
  constructor
  ·
   rintro ⟨h1, h2, h3, h4⟩
   refine ⟨⟨h1, h3⟩, fun n hn he => ?_⟩
   cases n with
   | zero => exact h2.resolve_left (fun hne => hne (by omega))
   | succ n => simpa using h4 n (by simpa using hn) (by omega)
  ·
   rintro ⟨⟨h1, h3⟩, h4⟩
   refine ⟨h1, ?_, h3, fun n hn he => h4 (n + 1) (by simp only [List.length_cons]; omega) (by omega)⟩
   by_cases he : i = j
   ·
    exact .inr (h4 0 (by simp) (by omega))
   ·
    exact .inl he
theorem rowsR_iff (n : Nat) : ∀ (l : List (List Int)) (i : Nat), rowsR n l i = true ↔ ∀ m (h : m < l.length), l[m].length = n ∧ chkR (i + m) l[m] 0 = true
 | [], i => by simp [rowsR]
 | r :: t, i => by
  simp only [rowsR, Bool.and_eq_true, decide_eq_true_eq, rowsR_iff n t (i + 1)]
  constructor
  ·
   rintro ⟨h1, h2, h3⟩ m hm
   cases m with
   | zero => exact ⟨h1, h2⟩
   | succ m => have := h3 m (by simpa using hm); simpa [Nat.add_assoc, Nat.add_comm 1 m] using this
  ·
   intro h
   refine ⟨(h 0 (by simp)).1, (h 0 (by simp)).2, fun m hm => ?_⟩
   have := h (m + 1) (by simpa using hm)
   simpa [Nat.add_assoc, Nat.add_comm 1 m] using this
theorem rows_ways (l0 : List S39) (l2 : List (List Int)) (hl : l2.length = l0.length + 1) : rowsR (l0.length + 1) l2 0 = waysB (l0.length + 1) l2 := by
 rw [Bool.eq_iff_iff, rowsR_iff]
 unfold waysB
 rw [List.all_eq_true]
 constructor
 ·
  intro h j hj
  have hj' : j < l2.length := by simpa using hj
  obtain ⟨h1, h2⟩ := h j hj'
  rw [Nat.zero_add, chkR_iff] at h2
  have e : l2.getD j [] = l2[j] := by simp [hj']
  rw [e]
  unfold rowB
  simp only [Bool.and_eq_true, decide_eq_true_eq, List.all_eq_true]
  have hz := h2.2 j (by omega) (by omega)
  refine ⟨by omega, ?_, h2.1⟩
  simp [rd, show j < l2[j].length by omega, hz]
 ·
  intro h m hm
  have h1 := h m (by simpa using hm)
  have e : l2.getD m [] = l2[m] := by simp [hm]
  rw [e] at h1
  unfold rowB at h1
  simp only [Bool.and_eq_true, decide_eq_true_eq, List.all_eq_true] at h1
  obtain ⟨h2, h3, h4⟩ := h1
  have h5 : l2[m].length = l0.length + 1 := by omega
  refine ⟨h5, ?_⟩
  rw [Nat.zero_add, chkR_iff]
  refine ⟨h4, fun n hn he => ?_⟩
  obtain rfl : n = m := by omega
  simpa [rd, hn] using h3
theorem net_eq (l0 : List S39) (l1 : List S37) (l2 : List (List Int)) (hs : Short l0 l1 l2) (k : Nat) (hk : 240 ≤ k) : talikref04_Net.f k l0 l1 l2 = some (validB l0 l1 l2) := by
 have h := net0_go l0 l1 l2 hs l0.length 0 k (by omega) (by have := hs.h0; omega)
 have h' : talikref04_Net.f k l0 l1 l2 = some (l0.all loopB && (l1.all (fun s => spanB s 0 1000) && (rowsR (l0.length + 1) l2 0 && finR l0 l1 l2))) := by
  unfold talikref04_Net.f
  simpa using h
 rw [h']
 congr 1
 unfold finR validB
 by_cases hl : l2.length = l0.length + 1
 ·
  have e1 : decide ((l2.length : Int) = (l0.length : Int) + 1) = true := by simp; omega
  rw [rows_ways l0 l2 hl, e1]
  simp only [hl, decide_true, Bool.and_true, Bool.true_and]
  cases l0.all loopB <;> cases (l1.all fun s => spanB s 0 1000) <;> cases waysB ((l0.length : Int) + 1) l2 <;> cases inB (l0.length : Int) 1 5 <;> cases inB (l1.length : Int) 1 72 <;> simp
 ·
  have e1 : decide ((l2.length : Int) = (l0.length : Int) + 1) = false := by simp; omega
  rw [e1]
  simp [hl]
end Go.Proofs.Ytipphcjgdebecaa.PA
namespace Go.Proofs.Ytipphcjgdebecaa.PA
open Go.RowKit Go.Proofs.YtipphcjgdebecaaW.PrintWords Go.Proofs.YtipphcjgdebecaaW.PrintLast Go.Proofs.YtipphcjgdebecaaW.PrintMore
attribute [local go_sem] max2_int min2_int max_two min_two max_three min_three max_four min_four
def talikref04_IsLoop.f (l0_0 : List (S39)) (l0_1 : List (S37)) (l0_2 : List (List Int)) (a1 : Int) : Option (Bool) := (talikref04_in.f a1 0 (wrap64 ((l0_0.length : Int) - 1))).bind fun t182 => (some t182)
set_option maxHeartbeats 8000000 in
set_option maxRecDepth 100000 in
theorem talikref04_IsLoop.calls (A0_0 : Option Addr) (c0_0 : Nat) (l0_0 : List (S39)) (A0_1 : Option Addr) (c0_1 : Nat) (l0_1 : List (S37)) (A0_2 : Option Addr) (c0_2 : Nat) (l0_2 : List (List Int)) (a1 : Int) (r : Bool) (w : World) (hr0_0 : Kd.C k39 w A0_0 l0_0.length l0_0) (hc0_0 : l0_0.length ≤ c0_0) (hr0_1 : Kd.C k37 w A0_1 l0_1.length l0_1) (hc0_1 : l0_1.length ≤ c0_1) (hr0_2 : Kd.C (Kd.slice 3 (Kd.int .i64)) w A0_2 l0_2.length l0_2) (hc0_2 : l0_2.length ≤ c0_2) (h : talikref04_IsLoop.f l0_0 l0_1 l0_2 a1 = some r) :
  Calls Try.prog 20 #[.agg #[.slice A0_0 l0_0.length c0_0, .slice A0_1 l0_1.length c0_1, .slice A0_2 l0_2.length c0_2], .int .i64 a1] w fun e w' => e = .returned (.bool r) ∧ Below w.heap.size w w' := by
 have hu26 := Try.underlying26
 have HR0_0 := qac.mk hr0_0
 have HC0_0 := qac.mk hc0_0
 clear hr0_0 hc0_0
 have HR0_1 := qac.mk hr0_1
 have HC0_1 := qac.mk hc0_1
 clear hr0_1 hc0_1
 have HR0_2 := qac.mk hr0_2
 have HC0_2 := qac.mk hc0_2
 clear hr0_2 hc0_2
 have HB := qac.mk (Below.refl w.heap.size w)
 have H : ((talikref04_in.f a1 0 (wrap64 ((l0_0.length : Int) - 1))).bind fun t182 => (some t182)) = some r := h
 clear h
 replace H := Option.bind_eq_some_iff.mp H
 obtain ⟨t182, A30, H⟩ := H
 replace H : (some t182) = some r := H
 have A3 := qac.mk A30
 clear A30
 obtain rfl := Option.some.inj H
 go_enter Try.func20, Try.ntmps20
 go_wp2_with (first | ((with_reducible refine qax (N := 2) rfl ?_); refine qaw ?hg (N := 2) ?hd (cs := #[.slice A0_0 l0_0.length c0_0, .slice A0_1 l0_1.length c0_1, .slice A0_2 l0_2.length c0_2]) (t := 26) ?hr ?_; (case hd => rfl); (case hg => rfl); (case hr => first | (go_simp; done) | (go_simp; rfl)); intro gb181 hg w4 hbox hb; have n0_ := qac.mk (qai (by repeat (first | (with_reducible first | exact HB.out | apply qae | apply qad | apply qaf) | exact HB.out)) hb); have n1_ := qac.mk (hbox); have n2_ := qac.mk ((by rw [hg]; exact (qar (by repeat (first | (with_reducible first | exact HB.out | apply qae | apply qad | apply qaf) | exact HB.out))) : w.heap.size ≤ gb181)); have n3_ := qac.mk ((by rw [hg]; exact (qar (by repeat (first | (with_reducible first | exact HB.out | apply qae | apply qad | apply qaf) | exact HB.out))) : w.heap.size ≤ gb181)); clear HB; have HB := n0_; have BK181 := n1_; have GW181 := n2_; have GE181 := n3_; clear n0_ n1_ n2_ n3_; clear hb hbox hg; have hcz5_0 : w4.cell? ⟨gb181, 0, none⟩ = some (.slice A0_0 l0_0.length c0_0) := (qaa BK181.out 0).trans rfl; have hcz5_1 : w4.cell? ⟨gb181, 1, none⟩ = some (.slice A0_1 l0_1.length c0_1) := (qaa BK181.out 1).trans rfl; have hcz5_2 : w4.cell? ⟨gb181, 2, none⟩ = some (.slice A0_2 l0_2.length c0_2) := (qaa BK181.out 2).trans rfl; have hfz5_0 := qab BK181.out 0; have hfz5_1 := qab BK181.out 1; have hfz5_2 := qab BK181.out 2) | ((with_reducible refine qau (f := 60) rfl ?_); refine goesL_ (some 10) rfl rfl Try.func60 (by kernel_rfl) rfl #[.int .i64 a1, .int .i64 0, .int .i64 (wrap64 ((l0_0.length : Int) - 1))] rfl (by (try simp only [List.map_toArray, List.map_cons, List.map_nil]); first | done | rfl | (simp only [List.length_drop, List.length_take]; rfl)) ?_; (with_reducible refine (talikref04_in.calls a1 0 (wrap64 ((l0_0.length : Int) - 1)) t182 _ A3.out).mono ?_); rintro e w' ⟨rfl, ⟨nd, rfl⟩⟩; refine ⟨_, rfl, ?_⟩))
 go_ret
 exact ⟨by first | rfl | (simp [qas, qat] <;> rfl) | (simp [*, qas, qat] <;> rfl), by repeat (first | (with_reducible first | exact HB.out | apply qae | apply qad | apply qaf | refine qag ?_ GE181.out) | exact HB.out)⟩
end Go.Proofs.Ytipphcjgdebecaa.PA
namespace Go.Proofs.Ytipphcjgdebecaa.PA
open Go.RowKit Go.Proofs.YtipphcjgdebecaaW.PrintWords Go.Proofs.YtipphcjgdebecaaW.PrintLast Go.Proofs.YtipphcjgdebecaaW.PrintMore
attribute [local go_sem] max2_int min2_int max_two min_two max_three min_three max_four min_four
theorem wrap_id {x : Int} (h0 : -9223372036854775808 ≤ x) (h1 : x ≤ 9223372036854775807) : wrap64 x = x := by unfold wrap64; omega
structure LoopOk (L : S39) : Prop where
 w0 : 1 ≤ L.f0.f0
 w1 : L.f0.f0 ≤ L.f0.f1
 w2 : L.f0.f1 ≤ 1000
 k0 : 0 ≤ L.f1.f0
 k1 : L.f1.f0 ≤ L.f1.f1
 k2 : L.f1.f1 ≤ 1000
 p0 : 0 ≤ L.f2.f0
 p1 : L.f2.f0 ≤ L.f2.f1
 p2 : L.f2.f1 ≤ 1000
 q0 : L.f2.f0 ≤ L.f1.f0
 q1 : L.f2.f1 ≤ L.f1.f1
 c0 : 0 ≤ L.f3
 c1 : L.f3 ≤ 1000000
 m0 : 1 ≤ L.f4
 m1 : L.f4 ≤ 10000
 g0 : 0 ≤ L.f5
 g1 : L.f5 ≤ 1000
 e0 : 0 ≤ L.f6
 e1 : L.f6 ≤ 1000
 x0 : 0 ≤ L.f7.f0
 x1 : L.f7.f0 ≤ L.f7.f1
 x2 : L.f7.f1 ≤ 72
theorem loop_ok {L : S39} (h : loopB L = true) : LoopOk L := by
 unfold loopB spanB inB at h
 simp only [Bool.and_eq_true, decide_eq_true_eq] at h
 obtain ⟨⟨a1, a2, a3⟩, ⟨b1, b2, b3⟩, ⟨c1, c2, c3⟩, d, e, ⟨f1, f2⟩, ⟨g1, g2⟩, ⟨h1, h2⟩, ⟨i1, i2⟩, j1, j2, j3⟩ := h
 exact ⟨a1, a2, a3, b1, b2, b3, c1, c2, c3, d, e, f1, f2, g1, g2, h1, h2, i1, i2, j1, j2, j3⟩
structure NetOk (l0 : List S39) (l1 : List S37) (l2 : List (List Int)) : Prop where
 n0 : 1 ≤ l0.length
 n1 : l0.length ≤ 5
 h0 : 1 ≤ l1.length
 h1 : l1.length ≤ 72
 m : l2.length = l0.length + 1
 ways : ∀ i (h : i < l2.length), l2[i].length = l0.length + 1 ∧ rd l2[i] i = 0 ∧ ∀ x ∈ l2[i], 0 ≤ x ∧ x ≤ 72
 loops : ∀ L ∈ l0, LoopOk L
 frost : ∀ F ∈ l1, 0 ≤ F.f0 ∧ F.f0 ≤ F.f1 ∧ F.f1 ≤ 1000
theorem net_ok {l0 : List S39} {l1 : List S37} {l2 : List (List Int)} (h : validB l0 l1 l2 = true) : NetOk l0 l1 l2 := by
 unfold validB at h
 simp only [Bool.and_eq_true, List.all_eq_true] at h
 obtain ⟨h1, h2, h3, h4, h5, h6⟩ := h
 unfold inB at h3 h4
 simp only [Bool.and_eq_true, decide_eq_true_eq] at h1 h3 h4
 refine ⟨by omega, by omega, by omega, by omega, by omega, fun i hi => ?_, fun L hL => loop_ok (h5 L hL), fun F hF => ?_⟩
 ·
  unfold waysB at h2
  rw [List.all_eq_true] at h2
  have h7 := h2 i (by simpa using hi)
  have e : l2.getD i [] = l2[i] := by simp [hi]
  rw [e] at h7
  unfold rowB inB at h7
  simp only [Bool.and_eq_true, decide_eq_true_eq, List.all_eq_true] at h7
  exact ⟨by omega, h7.2.1, h7.2.2⟩
 ·
  have h7 := h6 F hF
  unfold spanB at h7
  simp only [Bool.and_eq_true, decide_eq_true_eq] at h7
  exact h7
theorem rdT39_mem {l0 : List S39} {i : Int} (h0 : 0 ≤ i) (h1 : i < l0.length) : qah l0 i ∈ l0 := by
 have h2 : i.toNat < l0.length := by omega
 have e : qah l0 i = l0[i.toNat] := by simp [qah, h2]
 rw [e]
 exact List.getElem_mem _
theorem known_some : taliklaw04_known.f = some true := rfl
theorem isloop_eq (l0 : List S39) (l1 : List S37) (l2 : List (List Int)) (a1 : Int) : talikref04_IsLoop.f l0 l1 l2 a1 = some (inB a1 0 (wrap64 ((l0.length : Int) - 1))) := by
 unfold talikref04_IsLoop.f
 rw [rin_eq]
 rfl
theorem isloop_iff {l0 : List S39} {l1 : List S37} {l2 : List (List Int)} (h : NetOk l0 l1 l2) (a1 : Int) : inB a1 0 (wrap64 ((l0.length : Int) - 1)) = true ↔ 0 ≤ a1 ∧ a1 < l0.length := by
 have h0 := h.n0
 have h1 := h.n1
 rw [wrap_id (by omega) (by omega)]
 unfold inB
 simp only [Bool.and_eq_true, decide_eq_true_eq]
 omega
end Go.Proofs.Ytipphcjgdebecaa.PA
namespace Go.Proofs.Ytipphcjgdebecaa.PA
open Go.RowKit Go.Shelf Go.Proofs.YtipphcjgdebecaaW.PrintWords Go.Proofs.YtipphcjgdebecaaW.PrintLast Go.Proofs.YtipphcjgdebecaaW.PrintMore
attribute [local go_sem] max2_int min2_int max_two min_two max_three min_three max_four min_four
def Opens {α : Type} (d : Kd α) (t : TypeId) : Prop := ∀ (H : Type) (enc : TypeId × Value → H) (w : World) (base fuel : Nat) (cs : List Value) (x : DataW H × List MemPlace), DataW.trod enc Try.prog w base (fun _ => true) true fuel t cs = some x → ∃ v, d.K w v cs
theorem opens_int : Opens (Kd.int .i64) 3 := by
 intro H enc w base fuel cs x h
 obtain ⟨n, rfl, _, _⟩ := DataW.trod_int Try.underlying3 h
 exact ⟨n, rfl⟩
theorem cell_of_cells {w : World} {base n : Nat} {a : Addr} {cs : List Value} (h : w.cells? base a n = some cs) : cs.length = n ∧ ∀ i u, cs[i]? = some u → w.cell? (a.add i) = some u := by
 unfold World.cells? at h
 split at h
 ·
  refine ⟨by simpa using mapM_some_length h, fun i u hu => ?_⟩
  have hi : i < n := by
   have h1 := mapM_some_length h
   have h2 := (List.getElem?_eq_some_iff.1 hu).1
   simp at h1
   omega
  have h3 := mapM_some_get h i i (by simp [hi])
  rw [h3]
  exact hu
 ·
  cases h
theorem opens_slice {α : Type} {d : Kd α} {t e : TypeId} (z : α) (ht : Try.prog.underlying t = some (.slice e)) (hz : Try.prog.cellsOf e = d.sz) (hd : Opens d e) : Opens (Kd.slice e d) t := by
 intro H enc w base fuel cs x h
 rcases Deep.open_slice ht h with ⟨rfl, _⟩ | ⟨a, len, cap, m, n, D, Pl, rfl, hb, hl, hm, hmm, _, hel⟩
 ·
  exact ⟨[], none, 0, rfl, Nat.le_refl _, rfl, by simp, fun h => absurd h (by simp)⟩
 ·
  simp only [if_true] at hmm
  subst hmm
  haveI : Inhabited (α × List Value) := ⟨(z, [])⟩
  obtain ⟨F, hF⟩ : ∃ F : Nat → α × List Value, ∀ i, i < len → w.cells? base (a.add (i * Try.prog.cellsOf e)) (Try.prog.cellsOf e) = some (F i).2 ∧ d.K w (F i).1 (F i).2 := by
   have hx : ∀ i, i < len → ∃ q : α × List Value, w.cells? base (a.add (i * Try.prog.cellsOf e)) (Try.prog.cellsOf e) = some q.2 ∧ d.K w q.1 q.2 := fun i hi => by
    obtain ⟨cs', h1, h2⟩ := hel i (by omega)
    obtain ⟨v, hv⟩ := hd H enc w base n cs' _ h2
    exact ⟨(v, cs'), h1, hv⟩
   exact Deep.choose_lt hx
  have hlen : ((List.range len).map fun i => (F i).1).length = len := by simp
  refine ⟨(List.range len).map fun i => (F i).1, some a, m, by rw [hlen], by rw [hlen]; exact hl, rfl, ?_, fun _ => ⟨a, rfl, fun j p hj => ?_⟩⟩
  ·
   rw [hlen]
   have : maxLen ≤ 9223372036854775807 := by decide
   omega
  ·
   obtain ⟨hj1, hj2⟩ := List.getElem?_eq_some_iff.1 hj
   have hjl : j < len := by simpa using hj1
   have hp : p = (F j).1 := by simpa using hj2.symm
   subst hp
   obtain ⟨h1, h2⟩ := hF j hjl
   refine ⟨(F j).2, d.K_len h2, h2, fun i u hu => ?_⟩
   have h3 := (cell_of_cells h1).2 i u hu
   rw [Deep.add_add, hz] at h3
   exact h3
theorem K_pair {α β : Type} {a : Kd α} {b : Kd β} {w : World} {cs : List Value} {o : Nat} {x : α} {y : β} (h1 : a.K w x ((cs.drop o).take a.sz)) (h2 : b.K w y (cs.drop (o + a.sz))) : (Kd.pair a b).K w (x, y) (cs.drop o) :=
 ⟨_, _, by have h := (List.take_append_drop a.sz (cs.drop o)).symm; rwa [List.drop_drop] at h, h1, h2⟩
theorem K_last {α : Type} {a : Kd α} {w : World} {cs : List Value} {o : Nat} {x : α} (h1 : a.K w x ((cs.drop o).take a.sz)) (hl : cs.length = o + a.sz) : a.K w x (cs.drop o) := by
 rwa [List.take_of_length_le (by simp; omega)] at h1
theorem field_of {α : Type} {d : Kd α} {t : TypeId} (hd : Opens d t) (hz : Try.prog.cellsOf t = d.sz) {H : Type} {enc : TypeId × Value → H} {w : World} {base n o : Nat} {cs : List Value} {xs : List (DataW H × List MemPlace)} {i : Nat} (hi : i < xs.length)
  (h : DataW.trod enc Try.prog w base (fun _ => true) true n t ((cs.drop o).take (Try.prog.cellsOf t)) = xs[i]?) : ∃ v, d.K w v ((cs.drop o).take d.sz) := by
 rw [hz, List.getElem?_eq_getElem hi] at h
 exact hd H enc w base n _ _ h
theorem opens_37 : Opens k37 37 := by
 intro H enc w base fuel cs x h
 obtain ⟨xs, n, rfl, rfl, hl, hxl, hf⟩ := DataW.trod_struct Try.underlying37 h
 have hl' : cs.length = 2 := hl.trans (by kernel_rfl)
 have hx : xs.length = 2 := hxl
 obtain ⟨v0, e0⟩ := field_of opens_int (by kernel_rfl) (i := 0) (by omega) (hf 0 _ rfl)
 obtain ⟨v1, e1⟩ := field_of opens_int (by kernel_rfl) (i := 1) (by omega) (hf 1 _ rfl)
 exact ⟨⟨v0, v1⟩, K_pair (o := 0) e0 (K_last (o := 0 + 1) e1 hl')⟩
theorem opens_39 : Opens k39 39 := by
 intro H enc w base fuel cs x h
 obtain ⟨xs, n, rfl, rfl, hl, hxl, hf⟩ := DataW.trod_struct Try.underlying39 h
 have hl' : cs.length = 12 := hl.trans (by kernel_rfl)
 have hx : xs.length = 8 := hxl
 obtain ⟨v0, e0⟩ := field_of opens_37 (by kernel_rfl) (i := 0) (by omega) (hf 0 _ rfl)
 obtain ⟨v1, e1⟩ := field_of opens_37 (by kernel_rfl) (i := 1) (by omega) (hf 1 _ rfl)
 obtain ⟨v2, e2⟩ := field_of opens_37 (by kernel_rfl) (i := 2) (by omega) (hf 2 _ rfl)
 obtain ⟨v3, e3⟩ := field_of opens_int (by kernel_rfl) (i := 3) (by omega) (hf 3 _ rfl)
 obtain ⟨v4, e4⟩ := field_of opens_int (by kernel_rfl) (i := 4) (by omega) (hf 4 _ rfl)
 obtain ⟨v5, e5⟩ := field_of opens_int (by kernel_rfl) (i := 5) (by omega) (hf 5 _ rfl)
 obtain ⟨v6, e6⟩ := field_of opens_int (by kernel_rfl) (i := 6) (by omega) (hf 6 _ rfl)
 obtain ⟨v7, e7⟩ := field_of opens_37 (by kernel_rfl) (i := 7) (by omega) (hf 7 _ rfl)
 exact ⟨⟨v0, v1, v2, v3, v4, v5, v6, v7⟩, K_pair (o := 0) e0 (K_pair (o := 0 + 2) e1 (K_pair (o := 0 + 2 + 2) e2 (K_pair (o := 0 + 2 + 2 + 2) e3 (K_pair (o := 0 + 2 + 2 + 2 + 1) e4 (K_pair (o := 0 + 2 + 2 + 2 + 1 + 1) e5 (K_pair (o := 0 + 2 + 2 + 2 + 1 + 1 + 1) e6 (K_last (o := 0 + 2 + 2 + 2 + 1 + 1 + 1 + 1) e7 hl')))))))⟩
theorem opens_22 : Opens (Kd.slice 39 k39) 22 := opens_slice z39 Try.underlying22 (by kernel_rfl) opens_39
theorem opens_23 : Opens (Kd.slice 37 k37) 23 := opens_slice z37 Try.underlying23 (by kernel_rfl) opens_37
theorem opens_47 : Opens (Kd.slice 3 (Kd.int .i64)) 47 := opens_slice 0 Try.underlying47 (by kernel_rfl) opens_int
theorem opens_24 : Opens (Kd.slice 47 (Kd.slice 3 (Kd.int .i64))) 24 := opens_slice [] Try.underlying24 (by kernel_rfl) opens_47
set_option maxRecDepth 100000 in
theorem open_net {H : Type} {enc : TypeId × Value → H} {w : World} {b0 : Nat} {v : Value} {d : DataW H} {p : List MemPlace} (hv : Value.okWide Try.prog w .any b0 26 v) (h : DataW.Trod enc Try.prog w 0 (fun _ => true) true 26 v d p) :
  ∃ (A0 : Option Addr) (c0 : Nat) (l0 : List S39) (A1 : Option Addr) (c1 : Nat) (l1 : List S37) (A2 : Option Addr) (c2 : Nat) (l2 : List (List Int)), v = .agg #[.slice A0 l0.length c0, .slice A1 l1.length c1, .slice A2 l2.length c2] ∧
   Kd.C k39 w A0 l0.length l0 ∧ l0.length ≤ c0 ∧ Kd.C k37 w A1 l1.length l1 ∧ l1.length ≤ c1 ∧ Kd.C (Kd.slice 3 (Kd.int .i64)) w A2 l2.length l2 ∧ l2.length ≤ c2 := by
 obtain ⟨v0, v1, v2, y0, y1, y2, n, rfl, _, _, h0, h1, h2⟩ := Joins.open_agg3 Try.underlying26 (by kernel_rfl) (by kernel_rfl) hv h
 obtain ⟨l0, A0, c0, e0, f0, g0⟩ := opens_22 H enc w 0 n _ _ h0
 obtain ⟨l1, A1, c1, e1, f1, g1⟩ := opens_23 H enc w 0 n _ _ h1
 obtain ⟨l2, A2, c2, e2, f2, g2⟩ := opens_24 H enc w 0 n _ _ h2
 injection e0 with e0 _
 injection e1 with e1 _
 injection e2 with e2 _
 subst e0 e1 e2
 exact ⟨A0, c0, l0, A1, c1, l1, A2, c2, l2, rfl, g0, f0, g1, f1, g2, f2⟩
set_option maxRecDepth 100000 in
theorem open_nums {H : Type} {enc : TypeId × Value → H} {w : World} {b0 : Nat} {v : Value} {d : DataW H} {p : List MemPlace} (hv : Value.okWide Try.prog w .any b0 47 v) (h : DataW.Trod enc Try.prog w 0 (fun _ => true) true 47 v d p) :
  ∃ (A : Option Addr) (c : Nat) (l : List Int), v = .slice A l.length c ∧ Kd.C (Kd.int .i64) w A l.length l ∧ l.length ≤ c := by
 obtain ⟨a, len, cap, rfl⟩ := WideShapes.okWide_slice Try.underlying47 hv
 obtain ⟨n, hn⟩ := h
 obtain ⟨l, A, c, e, f, g⟩ := opens_47 H enc w 0 n _ _ hn
 simp [Value.cells] at e
 obtain ⟨rfl, rfl, rfl⟩ := e
 exact ⟨_, _, l, rfl, g, f⟩
end Go.Proofs.Ytipphcjgdebecaa.PA
namespace Go.Proofs.Ytipphcjgdebecaa.PA
open Go.RowKit Go.Shelf Go.Proofs.YtipphcjgdebecaaW.PrintWords Go.Proofs.YtipphcjgdebecaaW.PrintLast Go.Proofs.YtipphcjgdebecaaW.PrintMore
attribute [local go_sem] max2_int min2_int max_two min_two max_three min_three max_four min_four
structure G1Ok (of : Int → Int × Bool) (l : List Int) (a : Int × Int × Bool) : Prop where
 no : a.2.2 = false → ∀ x ∈ l, (of x).2 = false
 mem : a.2.2 = true → a.1 ∈ l ∧ of a.1 = (a.2.1, true)
 max : a.2.2 = true → ∀ x ∈ l, (of x).2 = true → (of x).1 ≤ a.2.1
 first : a.2.2 = true → ∀ x ∈ l, of x = (a.2.1, true) → a.1 ≤ x
theorem g1_step (of : Int → Int × Bool) (l : List Int) (a : Int × Int × Bool) (h : G1Ok of l a) (x : Int) (hx : ∀ y ∈ l, y < x) : G1Ok of (l ++ [x]) (g1s of a x) := by
 unfold g1s
 by_cases hc : (of x).2 = true ∧ (a.2.2 = false ∨ (of x).1 > a.2.1)
 ·
  rw [if_pos hc]
  obtain ⟨h1, h2⟩ := hc
  refine ⟨fun h => by simp at h, fun _ => ⟨by simp, by rw [← h1]⟩, fun _ y hy ht => ?_, fun _ y hy he => ?_⟩
  ·
   rcases List.mem_append.1 hy with hy | hy
   ·
    rcases h2 with h2 | h2
    ·
     rw [h.no h2 y hy] at ht
     cases ht
    ·
     cases ha : a.2.2 with
     | false => rw [h.no ha y hy] at ht; cases ht
     | true => have := h.max ha y hy ht; show (of y).1 ≤ (of x).1; omega
   ·
    obtain rfl : y = x := by simpa using hy
    exact Int.le_refl _
  ·
   rcases List.mem_append.1 hy with hy | hy
   ·
    have hyt : (of y).2 = true := by rw [he]
    have hyv : (of y).1 = (of x).1 := by rw [he]
    rcases h2 with h2 | h2
    ·
     rw [h.no h2 y hy] at hyt
     cases hyt
    ·
     cases ha : a.2.2 with
     | false => rw [h.no ha y hy] at hyt; cases hyt
     | true => have := h.max ha y hy hyt; omega
   ·
    obtain rfl : y = x := by simpa using hy
    exact Int.le_refl _
 ·
  rw [if_neg hc]
  refine ⟨fun ha y hy => ?_, fun ha => ⟨by simp [(h.mem ha).1], (h.mem ha).2⟩, fun ha y hy ht => ?_, fun ha y hy he => ?_⟩
  ·
   rcases List.mem_append.1 hy with hy | hy
   ·
    exact h.no ha y hy
   ·
    obtain rfl : y = x := by simpa using hy
    cases ho : (of y).2 with
    | false => rfl
    | true => exact absurd ⟨ho, .inl ha⟩ hc
  ·
   rcases List.mem_append.1 hy with hy | hy
   ·
    exact h.max ha y hy ht
   ·
    obtain rfl : y = x := by simpa using hy
    by_cases hgt : (of y).1 > a.2.1
    ·
     exact absurd ⟨ht, .inr hgt⟩ hc
    ·
     omega
  ·
   rcases List.mem_append.1 hy with hy | hy
   ·
    exact h.first ha y hy he
   ·
    obtain rfl : y = x := by simpa using hy
    have := hx _ (h.mem ha).1
    omega
theorem g1_ok (of : Int → Int × Bool) (l : List Int) (hl : l.Pairwise (· < ·)) : G1Ok of l (g1 of l) := by
 have key : ∀ (m p : List Int) (a : Int × Int × Bool), G1Ok of p a → (p ++ m).Pairwise (· < ·) → G1Ok of (p ++ m) (m.foldl (g1s of) a) := by
  intro m
  induction m with
  | nil => intro p a h _; simpa using h
  | cons x m ih =>
   intro p a h hp
   have hp' : ((p ++ [x]) ++ m).Pairwise (· < ·) := by simpa using hp
   have hx : ∀ y ∈ p, y < x := fun y hy => (List.pairwise_append.1 hp).2.2 y hy x (by simp)
   have := ih (p ++ [x]) _ (g1_step of p a h x hx) hp'
   simpa using this
 exact key l [] (0, 0, false) ⟨fun _ x hx => (by simp at hx), fun h => (by simp at h), fun h => (by simp at h), fun h => (by simp at h)⟩ (by simpa using hl)
theorem sorted_loopsOf (f : Int) (n : Nat) : (qay f n).Pairwise (· < ·) := by
 induction n with
 | zero => simp [qay]
 | succ n ih =>
  unfold qay
  split
  ·
   rw [List.pairwise_append]
   refine ⟨ih, by simp, fun x hx y hy => ?_⟩
   obtain ⟨k, rfl, hk, _⟩ := (mem_loopsOf f n x).1 hx
   obtain rfl : y = (n : Int) := by simpa using hy
   omega
  ·
   exact ih
def sl (l0 : List S39) (l2 : List (List Int)) (D : List Int) (N : Int) : Int → Int → List Int → Int
 | _, _, [] => N
 | p, h, i :: t => min (rd D i - (h + rd (rd_L1 l2 p) (i + 1) + (qah l0 i).f7.f1)) (sl l0 l2 D N (i + 1) (h + rd (rd_L1 l2 p) (i + 1) + (qah l0 i).f7.f1) t)
def lexLe : List Int → List Int → Prop
 | [], _ => True
 | _ :: _, [] => False
 | i :: t, j :: u => i < j ∨ (i = j ∧ lexLe t u)
section
variable {l0 : List S39} {l1 : List S37} {l2 : List (List Int)} {D : List Int}
structure BOk (l0 : List S39) (l1 : List S37) (l2 : List (List Int)) (D : List Int) : Prop where
 ways : ∀ p i : Int, 0 ≤ p → p ≤ l0.length → 0 ≤ i → i < l0.length → 0 ≤ rd (rd_L1 l2 p) (i + 1) ∧ rd (rd_L1 l2 p) (i + 1) ≤ 72
 fix : ∀ i : Int, 0 ≤ i → i < l0.length → 0 ≤ (qah l0 i).f7.f1 ∧ (qah l0 i).f7.f1 ≤ 72
 due : ∀ i : Int, 0 ≤ i → i < l0.length → 0 ≤ rd D i ∧ rd D i ≤ l1.length
 len : 1 ≤ l1.length ∧ l1.length ≤ 72
structure SOk (l0 : List S39) (s : Sp) : Prop where
 ok : OkS s
 p0 : 0 ≤ s.p
 p1 : s.p ≤ l0.length
 h0 : 0 ≤ s.h
 h1 : s.h ≤ 72
 lo : ∀ i ∈ qay s.r 5, 0 ≤ i ∧ i < l0.length
theorem hour_eq (hB : BOk l0 l1 l2 D) {s : Sp} (hs : SOk l0 s) {i : Int} (hi : i ∈ qay s.r 5) : hourV l0 l2 s i = s.h + rd (rd_L1 l2 s.p) (i + 1) + (qah l0 i).f7.f1 := by
 obtain ⟨i0, i1⟩ := hs.lo i hi
 have h1 := hB.ways s.p i hs.p0 hs.p1 i0 i1
 have h2 := hB.fix i i0 i1
 have h3 := hs.h0
 have h4 := hs.h1
 unfold hourV
 rw [wrap_id (x := s.h + rd (rd_L1 l2 s.p) (i + 1)) (by omega) (by omega), wrap_id (by omega) (by omega)]
theorem rep_eq (hB : BOk l0 l1 l2 D) {s : Sp} (hs : SOk l0 s) {i : Int} (hi : i ∈ qay s.r 5) :
  (repV l0 l2 D s i).2.2 = decide (s.h + rd (rd_L1 l2 s.p) (i + 1) + (qah l0 i).f7.f1 ≤ rd D i) ∧
  ((repV l0 l2 D s i).2.2 = true → (repV l0 l2 D s i).2.1 = rd D i - (s.h + rd (rd_L1 l2 s.p) (i + 1) + (qah l0 i).f7.f1) ∧ (repV l0 l2 D s i).1.p = i + 1 ∧ (repV l0 l2 D s i).1.h = s.h + rd (rd_L1 l2 s.p) (i + 1) + (qah l0 i).f7.f1 ∧
   qay (repV l0 l2 D s i).1.r 5 = (qay s.r 5).erase i ∧ SOk l0 (repV l0 l2 D s i).1 ∧ cntB (repV l0 l2 D s i).1.r + 1 = cntB s.r) := by
 obtain ⟨i0, i1⟩ := hs.lo i hi
 have h1 := hB.ways s.p i hs.p0 hs.p1 i0 i1
 have h2 := hB.fix i i0 i1
 have h3 := hs.h0
 have h4 := hs.h1
 have h5 := hB.due i i0 i1
 have h6 := hB.len
 have hh := hour_eq hB hs hi
 have hrest := rest_of s.r hs.ok.1 hs.ok.2 i hi
 have hers := (nodup_loopsOf s.r 5).erase_eq_filter i
 by_cases hc : hourV l0 l2 s i > rd D i
 ·
  have hd : decide (s.h + rd (rd_L1 l2 s.p) (i + 1) + (qah l0 i).f7.f1 ≤ rd D i) = false := decide_eq_false (by omega)
  have e : repV l0 l2 D s i = (⟨0, 0, 0⟩, 0, false) := by unfold repV; rw [if_pos hc]
  rw [e, hd]
  exact ⟨rfl, fun h => by cases h⟩
 ·
  have hd : decide (s.h + rd (rd_L1 l2 s.p) (i + 1) + (qah l0 i).f7.f1 ≤ rd D i) = true := decide_eq_true (by omega)
  have e : repV l0 l2 D s i = (nextV l0 l2 s i, wrap64 (rd D i - hourV l0 l2 s i), true) := by unfold repV; rw [if_neg hc]
  have hn := next_ok l0 l2 D s hs.ok i hi (by rw [e])
  rw [e, hd]
  rw [e] at hn
  refine ⟨rfl, fun _ => ⟨?_, rfl, hh, ?_, ⟨hn.1, ?_, ?_, ?_, ?_, ?_⟩, hn.2⟩⟩
  ·
   show wrap64 (rd D i - hourV l0 l2 s i) = _
   rw [hh, wrap_id (by omega) (by omega)]
  ·
   show qay (bits .andNot .i64 s.r (wrap64 (2 ^ i.toNat))) 5 = _
   rw [hrest.2.2, hers]
  ·
   show 0 ≤ i + 1
   omega
  ·
   show i + 1 ≤ (l0.length : Int)
   omega
  ·
   show 0 ≤ hourV l0 l2 s i
   omega
  ·
   show hourV l0 l2 s i ≤ 72
   omega
  ·
   intro j hj
   have hj' : j ∈ qay (bits .andNot .i64 s.r (wrap64 (2 ^ i.toNat))) 5 := hj
   rw [hrest.2.2] at hj'
   exact hs.lo j (List.mem_filter.1 hj').1
theorem zero_of (r : Int) (h0 : 0 ≤ r) (h1 : r < 32) (hl : qay r 5 = []) : r = 0 := by
 obtain ⟨n, rfl⟩ := Int.eq_ofNat_of_zero_le h0
 have hb := List.all_eq_true.1 bits_zero n (by simp; omega)
 simp only [hl, decide_true] at hb
 have hb2 := eq_of_beq hb
 exact of_decide_eq_true hb2
theorem nil_of_zero {s : Sp} (hs : OkS s) (h : s.r = 0) : qay s.r 5 = [] := by
 rw [h]
 decide
theorem best_ok (hB : BOk l0 l1 l2 D) : ∀ (c : Nat) (s : Sp), SOk l0 s → cntB s.r ≤ c →
  ((bestV l0 l1 l2 D s).2.2 = true → 0 ≤ (bestV l0 l1 l2 D s).2.1 ∧ (bestV l0 l1 l2 D s).2.1 ≤ l1.length ∧ (∃ o, o.Perm (qay s.r 5) ∧ sl l0 l2 D l1.length s.p s.h o = (bestV l0 l1 l2 D s).2.1) ∧ ∀ o, o.Perm (qay s.r 5) → sl l0 l2 D l1.length s.p s.h o ≤ (bestV l0 l1 l2 D s).2.1) ∧
  ((bestV l0 l1 l2 D s).2.2 = false → ∀ o, o.Perm (qay s.r 5) → sl l0 l2 D l1.length s.p s.h o < 0) := by
 have base : ∀ s : Sp, SOk l0 s → s.r = 0 → ((bestV l0 l1 l2 D s).2.2 = true → 0 ≤ (bestV l0 l1 l2 D s).2.1 ∧ (bestV l0 l1 l2 D s).2.1 ≤ l1.length ∧ (∃ o, o.Perm (qay s.r 5) ∧ sl l0 l2 D l1.length s.p s.h o = (bestV l0 l1 l2 D s).2.1) ∧ ∀ o, o.Perm (qay s.r 5) → sl l0 l2 D l1.length s.p s.h o ≤ (bestV l0 l1 l2 D s).2.1) ∧
   ((bestV l0 l1 l2 D s).2.2 = false → ∀ o, o.Perm (qay s.r 5) → sl l0 l2 D l1.length s.p s.h o < 0) := by
  intro s hs h0
  have hb : bestV l0 l1 l2 D s = ([], (l1.length : Int), true) := by
   rw [bestV_eq l0 l1 l2 D s hs.ok]
   unfold stepV
   rw [if_pos h0]
  have hl := nil_of_zero hs.ok h0
  rw [hb, hl]
  refine ⟨fun _ => ⟨by have := hB.len; show (0 : Int) ≤ l1.length; omega, Int.le_refl _, ⟨[], List.Perm.refl _, rfl⟩, fun o ho => ?_⟩, fun h => by simp at h⟩
  obtain rfl := List.perm_nil.1 ho
  exact Int.le_refl _
 intro c
 induction c with
 | zero =>
  intro s hs hc
  refine base s hs ?_
  have hl : qay s.r 5 = [] := List.length_eq_zero_iff.1 (by unfold cntB at hc; omega)
  exact (zero_of s.r hs.ok.1 hs.ok.2 hl)
 | succ c ih =>
  intro s hs hc
  by_cases h0 : s.r = 0
  ·
   exact base s hs h0
  ·
   have hbv : bestV l0 l1 l2 D s = stepV l0 l1 l2 D (bestV l0 l1 l2 D) s := bestV_eq l0 l1 l2 D s hs.ok
   have hb1 : (bestV l0 l1 l2 D s).2.1 = (g1 (ofV l0 l2 D (bestV l0 l1 l2 D) s) (qay s.r 5)).2.1 := by
    rw [hbv]
    unfold stepV
    rw [if_neg h0]
   have hb2 : (bestV l0 l1 l2 D s).2.2 = (g1 (ofV l0 l2 D (bestV l0 l1 l2 D) s) (qay s.r 5)).2.2 := by
    rw [hbv]
    unfold stepV
    rw [if_neg h0]
   have hg := g1_ok (ofV l0 l2 D (bestV l0 l1 l2 D) s) _ (sorted_loopsOf s.r 5)
   have hord : ∀ i t, (i :: t).Perm (qay s.r 5) → 0 ≤ sl l0 l2 D l1.length s.p s.h (i :: t) → (ofV l0 l2 D (bestV l0 l1 l2 D) s i).2 = true ∧ sl l0 l2 D l1.length s.p s.h (i :: t) ≤ (ofV l0 l2 D (bestV l0 l1 l2 D) s i).1 := by
    intro i t hp hsl
    obtain ⟨hi, ht⟩ := List.cons_perm_iff_perm_erase.1 hp
    obtain ⟨r1, r2⟩ := rep_eq hB hs hi
    simp only [sl] at hsl ⊢
    have hown : s.h + rd (rd_L1 l2 s.p) (i + 1) + (qah l0 i).f7.f1 ≤ rd D i := by omega
    have hr : (repV l0 l2 D s i).2.2 = true := by rw [r1]; exact decide_eq_true hown
    obtain ⟨e1, e2, e3, e4, e5, e6⟩ := r2 hr
    obtain ⟨ihA, ihB⟩ := ih (repV l0 l2 D s i).1 e5 (by omega)
    rw [e2, e3, e4] at ihA ihB
    unfold ofV
    rw [if_pos hr, e1]
    cases hn : (bestV l0 l1 l2 D (repV l0 l2 D s i).1).2.2 with
    | false =>
     have := ihB hn t ht
     omega
    | true =>
     have := (ihA hn).2.2.2 t ht
     refine ⟨rfl, ?_⟩
     show min _ _ ≤ min _ _
     omega
   rw [hb1, hb2]
   refine ⟨fun ht => ?_, fun hf o ho => ?_⟩
   ·
    obtain ⟨hm, he⟩ := hg.mem ht
    have hmax := hg.max ht
    obtain ⟨X, hX⟩ : ∃ X, (g1 (ofV l0 l2 D (bestV l0 l1 l2 D) s) (qay s.r 5)).1 = X := ⟨_, rfl⟩
    obtain ⟨V, hV⟩ : ∃ V, (g1 (ofV l0 l2 D (bestV l0 l1 l2 D) s) (qay s.r 5)).2.1 = V := ⟨_, rfl⟩
    rw [hX] at hm he
    rw [hV] at he hmax ⊢
    obtain ⟨r1, r2⟩ := rep_eq hB hs hm
    unfold ofV at he
    by_cases hr : (repV l0 l2 D s X).2.2 = true
    ·
     rw [if_pos hr] at he
     obtain ⟨e1, e2, e3, e4, e5, e6⟩ := r2 hr
     obtain ⟨ihA, ihB⟩ := ih _ e5 (by omega)
     rw [e2, e3, e4] at ihA
     have hn : (bestV l0 l1 l2 D (repV l0 l2 D s X).1).2.2 = true := (Prod.mk.inj he).2
     obtain ⟨a1, a2, ⟨o, ho, hso⟩, _⟩ := ihA hn
     have hv := (Prod.mk.inj he).1
     have hdec := r1.symm.trans hr
     have hle := of_decide_eq_true hdec
     rw [e1] at hv
     refine ⟨by omega, by omega, ⟨X :: o, List.cons_perm_iff_perm_erase.2 ⟨hm, ho⟩, ?_⟩, fun o' ho' => ?_⟩
     ·
      simp only [sl]
      rw [hso]
      exact hv
     ·
      cases o' with
      | nil =>
       have := List.nil_perm.1 ho'
       rw [this] at hm
       simp at hm
      | cons i t =>
       by_cases hneg : 0 ≤ sl l0 l2 D l1.length s.p s.h (i :: t)
       ·
        obtain ⟨q1, q2⟩ := hord i t ho' hneg
        have := hmax i ((List.Perm.mem_iff ho').1 (by simp)) q1
        omega
       ·
        omega
    ·
     rw [if_neg hr] at he
     exact absurd (Prod.mk.inj he).2 (by decide)
   ·
    cases o with
    | nil =>
     have h1 := List.nil_perm.1 ho
     exact absurd (zero_of s.r hs.ok.1 hs.ok.2 h1) h0
    | cons i t =>
     by_cases hneg : 0 ≤ sl l0 l2 D l1.length s.p s.h (i :: t)
     ·
      obtain ⟨q1, _⟩ := hord i t ho hneg
      rw [hg.no hf i ((List.Perm.mem_iff ho).1 (by simp))] at q1
      cases q1
     ·
      omega
theorem find_first {p : Int → Bool} : ∀ {l : List Int} {i : Int}, l.Pairwise (· < ·) → l.find? p = some i → i ∈ l ∧ p i = true ∧ ∀ j ∈ l, p j = true → i ≤ j
 | [], i, _, h => by simp at h
 | x :: l, i, hl, h => by
  obtain ⟨h1, h2⟩ := List.pairwise_cons.1 hl
  rw [List.find?_cons] at h
  cases hx : p x with
  | true =>
   rw [hx] at h
   obtain rfl : x = i := Option.some.inj h
   refine ⟨by simp, hx, fun j hj hp => ?_⟩
   rcases List.mem_cons.1 hj with rfl | hj
   ·
    exact Int.le_refl _
   ·
    have := h1 j hj
    omega
  | false =>
   rw [hx] at h
   obtain ⟨a, b, c⟩ := find_first h2 h
   refine ⟨by simp [a], b, fun j hj hp => ?_⟩
   rcases List.mem_cons.1 hj with rfl | hj
   ·
    rw [hx] at hp
    cases hp
   ·
    exact c j hj hp
theorem same_ok (hB : BOk l0 l1 l2 D) : ∀ (k : Nat) (s : Sp) (out : List Int) (slack : Int), SOk l0 s → cntB s.r ≤ k → 0 ≤ slack → slack ≤ l1.length → (bestV l0 l1 l2 D s).2.2 = true → slack ≤ (bestV l0 l1 l2 D s).2.1 →
  ∃ t, sameV l0 l2 D (bestV l0 l1 l2 D) slack k s out = out ++ t ∧ t.Perm (qay s.r 5) ∧ slack ≤ sl l0 l2 D l1.length s.p s.h t ∧ ∀ t', t'.Perm (qay s.r 5) → slack ≤ sl l0 l2 D l1.length s.p s.h t' → lexLe t t' := by
 intro k
 induction k with
 | zero =>
  intro s out slack hs hc h0 h1 hr hsl
  have hl : qay s.r 5 = [] := List.length_eq_zero_iff.1 (by unfold cntB at hc; omega)
  rw [hl]
  exact ⟨[], by simp [sameV], List.Perm.refl _, h1, fun t' ht' _ => by trivial⟩
 | succ k ih =>
  intro s out slack hs hc h0 h1 hr hsl
  unfold sameV
  by_cases hz : s.r = 0
  ·
   rw [if_pos hz, nil_of_zero hs.ok hz]
   exact ⟨[], by simp, List.Perm.refl _, h1, fun t' ht' _ => by trivial⟩
  ·
   rw [if_neg hz]
   obtain ⟨i, hi⟩ := good_some l0 l1 l2 D s hs.ok hz slack hr hsl
   rw [hi]
   obtain ⟨hm, hg, hfirst⟩ := find_first (sorted_loopsOf s.r 5) hi
   have hg' := hg
   unfold goodV at hg'
   simp only [Bool.and_eq_true, decide_eq_true_eq] at hg'
   obtain ⟨⟨⟨g1, g2⟩, g3⟩, g4⟩ := hg'
   obtain ⟨r1, r2⟩ := rep_eq hB hs hm
   obtain ⟨e1, e2, e3, e4, e5, e6⟩ := r2 g1
   obtain ⟨t, ht, hp, hsl', hlex⟩ := ih (repV l0 l2 D s i).1 (out ++ [i]) slack e5 (by omega) h0 h1 g3 g4
   rw [e2, e3] at hsl'
   rw [e2, e3, e4] at hlex
   rw [e4] at hp
   refine ⟨i :: t, by show sameV l0 l2 D (bestV l0 l1 l2 D) slack k (repV l0 l2 D s i).1 (out ++ [i]) = _; rw [ht]; simp, List.cons_perm_iff_perm_erase.2 ⟨hm, hp⟩, ?_, fun t' ht' hs' => ?_⟩
   ·
    simp only [sl]
    omega
   ·
    cases t' with
    | nil =>
     have := List.nil_perm.1 ht'
     rw [this] at hm
     simp at hm
    | cons j u =>
     obtain ⟨hj, hu⟩ := List.cons_perm_iff_perm_erase.1 ht'
     obtain ⟨q1, q2⟩ := rep_eq hB hs hj
     simp only [sl] at hs'
     have hr' : (repV l0 l2 D s j).2.2 = true := by rw [q1]; exact decide_eq_true (by omega)
     obtain ⟨f1, f2, f3, f4, f5, f6⟩ := q2 hr'
     obtain ⟨bA, bB⟩ := best_ok hB _ (repV l0 l2 D s j).1 f5 (Nat.le_refl _)
     rw [f2, f3, f4] at bA bB
     have hgood : goodV l0 l2 D (bestV l0 l1 l2 D) slack s j = true := by
      unfold goodV
      cases hn : (bestV l0 l1 l2 D (repV l0 l2 D s j).1).2.2 with
      | false =>
       have := bB hn u hu
       omega
      | true =>
       have := (bA hn).2.2.2 u hu
       rw [hr', f1]
       simp
       omega
     have hle := hfirst j hj hgood
     rcases Int.lt_or_eq_of_le hle with hlt | rfl
     ·
      exact .inl hlt
     ·
      exact .inr ⟨rfl, hlex u hu (by omega)⟩
theorem best_order (hB : BOk l0 l1 l2 D) (s : Sp) (hs : SOk l0 s) (hr : (bestV l0 l1 l2 D s).2.2 = true) :
  (bestV l0 l1 l2 D s).1.Perm (qay s.r 5) ∧ sl l0 l2 D l1.length s.p s.h (bestV l0 l1 l2 D s).1 = (bestV l0 l1 l2 D s).2.1 ∧ ∀ t', t'.Perm (qay s.r 5) → sl l0 l2 D l1.length s.p s.h t' = (bestV l0 l1 l2 D s).2.1 → lexLe (bestV l0 l1 l2 D s).1 t' := by
 obtain ⟨bA, _⟩ := best_ok hB _ s hs (Nat.le_refl _)
 obtain ⟨b0, b1, _, bmax⟩ := bA hr
 by_cases hz : s.r = 0
 ·
  have hb : bestV l0 l1 l2 D s = ([], (l1.length : Int), true) := by
   rw [bestV_eq l0 l1 l2 D s hs.ok]
   unfold stepV
   rw [if_pos hz]
  rw [hb, nil_of_zero hs.ok hz]
  exact ⟨List.Perm.refl _, rfl, fun t' _ _ => by trivial⟩
 ·
  have hbv : bestV l0 l1 l2 D s = stepV l0 l1 l2 D (bestV l0 l1 l2 D) s := bestV_eq l0 l1 l2 D s hs.ok
  have hb1 : (bestV l0 l1 l2 D s).2.1 = (g1 (ofV l0 l2 D (bestV l0 l1 l2 D) s) (qay s.r 5)).2.1 := by
   rw [hbv]
   unfold stepV
   rw [if_neg hz]
  have hb2 : (bestV l0 l1 l2 D s).2.2 = (g1 (ofV l0 l2 D (bestV l0 l1 l2 D) s) (qay s.r 5)).2.2 := by
   rw [hbv]
   unfold stepV
   rw [if_neg hz]
  have ht : (g1 (ofV l0 l2 D (bestV l0 l1 l2 D) s) (qay s.r 5)).2.2 = true := hb2.symm.trans hr
  have hb0 : (bestV l0 l1 l2 D s).1 = sameV l0 l2 D (bestV l0 l1 l2 D) (g1 (ofV l0 l2 D (bestV l0 l1 l2 D) s) (qay s.r 5)).2.1 5 (repV l0 l2 D s (g1 (ofV l0 l2 D (bestV l0 l1 l2 D) s) (qay s.r 5)).1).1 [(g1 (ofV l0 l2 D (bestV l0 l1 l2 D) s) (qay s.r 5)).1] := by
   rw [hbv]
   unfold stepV
   rw [if_neg hz]
   dsimp only
   rw [if_pos ht]
  have hg := g1_ok (ofV l0 l2 D (bestV l0 l1 l2 D) s) _ (sorted_loopsOf s.r 5)
  obtain ⟨hm, he⟩ := hg.mem ht
  rw [← hb1] at hb0 he
  have hfst : ∀ x ∈ qay s.r 5, ofV l0 l2 D (bestV l0 l1 l2 D) s x = ((bestV l0 l1 l2 D s).2.1, true) → (g1 (ofV l0 l2 D (bestV l0 l1 l2 D) s) (qay s.r 5)).1 ≤ x := fun x hx h => hg.first ht x hx (by rw [h, hb1])
  generalize (g1 (ofV l0 l2 D (bestV l0 l1 l2 D) s) (qay s.r 5)).1 = i at hm he hb0 hfst
  generalize hsk : (bestV l0 l1 l2 D s).2.1 = slack at b0 b1 bmax he hb0 hfst ⊢
  obtain ⟨r1, r2⟩ := rep_eq hB hs hm
  have he' := he
  unfold ofV at he'
  by_cases hrr : (repV l0 l2 D s i).2.2 = true
  ·
   rw [if_pos hrr] at he'
   obtain ⟨e1, e2, e3, e4, e5, e6⟩ := r2 hrr
   have hn : (bestV l0 l1 l2 D (repV l0 l2 D s i).1).2.2 = true := (Prod.mk.inj he').2
   have hv := (Prod.mk.inj he').1
   rw [e1] at hv
   obtain ⟨t, ht', hp, hsl', hlex⟩ := same_ok hB 5 (repV l0 l2 D s i).1 [i] slack e5 (cnt_le _) b0 b1 hn (by omega)
   rw [e2, e3] at hsl'
   rw [e2, e3, e4] at hlex
   rw [e4] at hp
   have hfull : (bestV l0 l1 l2 D s).1 = i :: t := by rw [hb0, ht']; rfl
   have hperm : (i :: t).Perm (qay s.r 5) := List.cons_perm_iff_perm_erase.2 ⟨hm, hp⟩
   have hslf : sl l0 l2 D l1.length s.p s.h (i :: t) = slack := by
    have h1 := bmax _ hperm
    have h2 : slack ≤ sl l0 l2 D l1.length s.p s.h (i :: t) := by
     simp only [sl]
     omega
    omega
   rw [hfull]
   refine ⟨hperm, hslf, fun t' ht'' hs' => ?_⟩
   cases t' with
   | nil =>
    have := List.nil_perm.1 ht''
    rw [this] at hm
    simp at hm
   | cons j u =>
    obtain ⟨hj, hu⟩ := List.cons_perm_iff_perm_erase.1 ht''
    obtain ⟨q1, q2⟩ := rep_eq hB hs hj
    have hs'' := hs'
    simp only [sl] at hs''
    have hr' : (repV l0 l2 D s j).2.2 = true := by rw [q1]; exact decide_eq_true (by omega)
    obtain ⟨f1, f2, f3, f4, f5, f6⟩ := q2 hr'
    obtain ⟨cA, cB⟩ := best_ok hB _ (repV l0 l2 D s j).1 f5 (Nat.le_refl _)
    rw [f2, f3, f4] at cA cB
    have hval : ofV l0 l2 D (bestV l0 l1 l2 D) s j = (slack, true) := by
     have hmx : (ofV l0 l2 D (bestV l0 l1 l2 D) s j).2 = true → (ofV l0 l2 D (bestV l0 l1 l2 D) s j).1 ≤ slack := fun h => by
      have := hg.max ht j hj h
      rw [← hb1, hsk] at this
      exact this
     cases hn' : (bestV l0 l1 l2 D (repV l0 l2 D s j).1).2.2 with
     | false =>
      have := cB hn' u hu
      omega
     | true =>
      have h3 := (cA hn').2.2.2 u hu
      have hof : ofV l0 l2 D (bestV l0 l1 l2 D) s j = (min (rd D j - (s.h + rd (rd_L1 l2 s.p) (j + 1) + (qah l0 j).f7.f1)) (bestV l0 l1 l2 D (repV l0 l2 D s j).1).2.1, true) := by
       unfold ofV
       rw [if_pos hr', f1, hn']
      rw [hof] at hmx ⊢
      have h4 := hmx rfl
      dsimp only at h4
      congr 1
      omega
    have hle := hfst j hj hval
    rcases Int.lt_or_eq_of_le hle with hlt | rfl
    ·
     exact .inl hlt
    ·
     exact .inr ⟨rfl, hlex u hu (by omega)⟩
  ·
   rw [if_neg hrr] at he'
   exact absurd (Prod.mk.inj he').2 (by decide)
end
end Go.Proofs.Ytipphcjgdebecaa.PA
namespace Go.Proofs.Ytipphcjgdebecaa.PA
open Go.RowKit Go.Proofs.YtipphcjgdebecaaW.PrintWords Go.Proofs.YtipphcjgdebecaaW.PrintLast Go.Proofs.YtipphcjgdebecaaW.PrintMore
attribute [local go_sem] max2_int min2_int max_two min_two max_three min_three max_four min_four
def talikref04_Place.f (l0_0 : List (S39)) (l0_1 : List (S37)) (l0_2 : List (List Int)) (a1 : Int) : Option (Bool) := (talikref04_in.f a1 0 (l0_0.length : Int)).bind fun t216 => (some t216)
set_option maxHeartbeats 8000000 in
set_option maxRecDepth 100000 in
theorem talikref04_Place.calls (A0_0 : Option Addr) (c0_0 : Nat) (l0_0 : List (S39)) (A0_1 : Option Addr) (c0_1 : Nat) (l0_1 : List (S37)) (A0_2 : Option Addr) (c0_2 : Nat) (l0_2 : List (List Int)) (a1 : Int) (r : Bool) (w : World) (hr0_0 : Kd.C k39 w A0_0 l0_0.length l0_0) (hc0_0 : l0_0.length ≤ c0_0) (hr0_1 : Kd.C k37 w A0_1 l0_1.length l0_1) (hc0_1 : l0_1.length ≤ c0_1) (hr0_2 : Kd.C (Kd.slice 3 (Kd.int .i64)) w A0_2 l0_2.length l0_2) (hc0_2 : l0_2.length ≤ c0_2) (h : talikref04_Place.f l0_0 l0_1 l0_2 a1 = some r) :
  Calls Try.prog 25 #[.agg #[.slice A0_0 l0_0.length c0_0, .slice A0_1 l0_1.length c0_1, .slice A0_2 l0_2.length c0_2], .int .i64 a1] w fun e w' => e = .returned (.bool r) ∧ Below w.heap.size w w' := by
 have hu26 := Try.underlying26
 have HR0_0 := qac.mk hr0_0
 have HC0_0 := qac.mk hc0_0
 clear hr0_0 hc0_0
 have HR0_1 := qac.mk hr0_1
 have HC0_1 := qac.mk hc0_1
 clear hr0_1 hc0_1
 have HR0_2 := qac.mk hr0_2
 have HC0_2 := qac.mk hc0_2
 clear hr0_2 hc0_2
 have HB := qac.mk (Below.refl w.heap.size w)
 have H : ((talikref04_in.f a1 0 (l0_0.length : Int)).bind fun t216 => (some t216)) = some r := h
 clear h
 replace H := Option.bind_eq_some_iff.mp H
 obtain ⟨t216, A30, H⟩ := H
 replace H : (some t216) = some r := H
 have A3 := qac.mk A30
 clear A30
 obtain rfl := Option.some.inj H
 go_enter Try.func25, Try.ntmps25
 go_wp2_with (first | ((with_reducible refine qax (N := 2) rfl ?_); refine qaw ?hg (N := 2) ?hd (cs := #[.slice A0_0 l0_0.length c0_0, .slice A0_1 l0_1.length c0_1, .slice A0_2 l0_2.length c0_2]) (t := 26) ?hr ?_; (case hd => rfl); (case hg => rfl); (case hr => first | (go_simp; done) | (go_simp; rfl)); intro gb215 hg w4 hbox hb; have n0_ := qac.mk (qai (by repeat (first | (with_reducible first | exact HB.out | apply qae | apply qad | apply qaf) | exact HB.out)) hb); have n1_ := qac.mk (hbox); have n2_ := qac.mk ((by rw [hg]; exact (qar (by repeat (first | (with_reducible first | exact HB.out | apply qae | apply qad | apply qaf) | exact HB.out))) : w.heap.size ≤ gb215)); have n3_ := qac.mk ((by rw [hg]; exact (qar (by repeat (first | (with_reducible first | exact HB.out | apply qae | apply qad | apply qaf) | exact HB.out))) : w.heap.size ≤ gb215)); clear HB; have HB := n0_; have BK215 := n1_; have GW215 := n2_; have GE215 := n3_; clear n0_ n1_ n2_ n3_; clear hb hbox hg; have hcz5_0 : w4.cell? ⟨gb215, 0, none⟩ = some (.slice A0_0 l0_0.length c0_0) := (qaa BK215.out 0).trans rfl; have hcz5_1 : w4.cell? ⟨gb215, 1, none⟩ = some (.slice A0_1 l0_1.length c0_1) := (qaa BK215.out 1).trans rfl; have hcz5_2 : w4.cell? ⟨gb215, 2, none⟩ = some (.slice A0_2 l0_2.length c0_2) := (qaa BK215.out 2).trans rfl; have hfz5_0 := qab BK215.out 0; have hfz5_1 := qab BK215.out 1; have hfz5_2 := qab BK215.out 2) | ((with_reducible refine qau (f := 60) rfl ?_); refine goesL_ (some 9) rfl rfl Try.func60 (by kernel_rfl) rfl #[.int .i64 a1, .int .i64 0, .int .i64 (l0_0.length : Int)] rfl (by (try simp only [List.map_toArray, List.map_cons, List.map_nil]); first | done | rfl | (simp only [List.length_drop, List.length_take]; rfl)) ?_; (with_reducible refine (talikref04_in.calls a1 0 (l0_0.length : Int) t216 _ A3.out).mono ?_); rintro e w' ⟨rfl, ⟨nd, rfl⟩⟩; refine ⟨_, rfl, ?_⟩))
 go_ret
 exact ⟨by first | rfl | (simp [qas, qat] <;> rfl) | (simp [*, qas, qat] <;> rfl), by repeat (first | (with_reducible first | exact HB.out | apply qae | apply qad | apply qaf | refine qag ?_ GE215.out) | exact HB.out)⟩
def talikref04_Sets.l0 : Nat → Int → Int → List (S39) → List (S37) → List (List Int) → Option (Int)
 | 0, _, _, _, _, _ => none
 | k + 1, x3, x4, x218000, x218001, x218002 => if x4 < (x218000.length : Int) then (talikref04_Sets.l0 k (wrap64 (2 * x3)) (wrap64 (x4 + 1)) x218000 x218001 x218002) else (some x3)
def talikref04_Sets.f (k : Nat) (l0_0 : List (S39)) (l0_1 : List (S37)) (l0_2 : List (List Int)) : Option (Int) := talikref04_Sets.l0 k 1 0 l0_0 l0_1 l0_2
set_option maxHeartbeats 8000000 in
set_option maxRecDepth 100000 in
theorem talikref04_Sets.calls (k : Nat) (A0_0 : Option Addr) (c0_0 : Nat) (l0_0 : List (S39)) (A0_1 : Option Addr) (c0_1 : Nat) (l0_1 : List (S37)) (A0_2 : Option Addr) (c0_2 : Nat) (l0_2 : List (List Int)) (r : Int) (w : World) (hr0_0 : Kd.C k39 w A0_0 l0_0.length l0_0) (hc0_0 : l0_0.length ≤ c0_0) (hr0_1 : Kd.C k37 w A0_1 l0_1.length l0_1) (hc0_1 : l0_1.length ≤ c0_1) (hr0_2 : Kd.C (Kd.slice 3 (Kd.int .i64)) w A0_2 l0_2.length l0_2) (hc0_2 : l0_2.length ≤ c0_2) (h : talikref04_Sets.f k l0_0 l0_1 l0_2 = some r) :
  Calls Try.prog 65 #[.agg #[.slice A0_0 l0_0.length c0_0, .slice A0_1 l0_1.length c0_1, .slice A0_2 l0_2.length c0_2]] w fun e w' => e = .returned (.int .i64 r) ∧ Below w.heap.size w w' := by
 have hu26 := Try.underlying26
 have HR0_0 := qac.mk hr0_0
 have HC0_0 := qac.mk hc0_0
 clear hr0_0 hc0_0
 have HR0_1 := qac.mk hr0_1
 have HC0_1 := qac.mk hc0_1
 clear hr0_1 hc0_1
 have HR0_2 := qac.mk hr0_2
 have HC0_2 := qac.mk hc0_2
 clear hr0_2 hc0_2
 have HB := qac.mk (Below.refl w.heap.size w)
 have H : (talikref04_Sets.l0 k 1 0 l0_0 l0_1 l0_2) = some r := h
 clear h
 have H' := qac.mk H
 clear H
 go_enter Try.func65, Try.ntmps65
 go_wp2_with (first | ((with_reducible refine qax (N := 1) rfl ?_); refine qaw ?hg (N := 1) ?hd (cs := #[.slice A0_0 l0_0.length c0_0, .slice A0_1 l0_1.length c0_1, .slice A0_2 l0_2.length c0_2]) (t := 26) ?hr ?_; (case hd => rfl); (case hg => rfl); (case hr => first | (go_simp; done) | (go_simp; rfl)); intro gb217 hg w2 hbox hb; have n0_ := qac.mk (qai (by repeat (first | (with_reducible first | exact HB.out | apply qae | apply qad | apply qaf) | exact HB.out)) hb); have n1_ := qac.mk (hbox); have n2_ := qac.mk ((by rw [hg]; exact (qar (by repeat (first | (with_reducible first | exact HB.out | apply qae | apply qad | apply qaf) | exact HB.out))) : w.heap.size ≤ gb217)); have n3_ := qac.mk ((by rw [hg]; exact (qar (by repeat (first | (with_reducible first | exact HB.out | apply qae | apply qad | apply qaf) | exact HB.out))) : w.heap.size ≤ gb217)); clear HB; have HB := n0_; have BK217 := n1_; have GW217 := n2_; have GE217 := n3_; clear n0_ n1_ n2_ n3_; clear hb hbox hg))
 go_loopg [3, 4] k (fun kq v3 v4 w' => ∃ (x3_1 : Int) (x4_1 : Int), v3 = .int .i64 x3_1 ∧ v4 = .int .i64 x4_1 ∧ qac (talikref04_Sets.l0 kq x3_1 x4_1 l0_0 l0_1 l0_2 = some r) ∧ qac (kq ≤ k) ∧ qac (w'.heap[gb217]? = some (.cells #[(.slice A0_0 l0_0.length c0_0), (.slice A0_1 l0_1.length c0_1), (.slice A0_2 l0_2.length c0_2)] 26 (0, 0))) ∧ qac (Below w.heap.size w w'))
 case atStart => exact ⟨(1), (0), (by first | rfl | (simp; done) | (simp [*]; done)), (by first | rfl | (simp; done) | (simp [*]; done)), H', ⟨Nat.le_refl _⟩, ⟨by (with_reducible repeat (first | refine qak ?_ _ | refine qap ?_ | refine qaj ?_ _)); exact BK217.out⟩, ⟨by repeat (first | (with_reducible first | exact HB.out | apply qae | apply qad | apply qaf | refine qag ?_ GE217.out) | exact HB.out)⟩⟩
 case round =>
  clear H'
  try clear p2
  obtain ⟨x3_1, x4_1, rfl, rfl, HA, HK1, BK217, HB⟩ := hrel
  cases gk with
  | zero => exact absurd HA.out (by simp [talikref04_Sets.l0])
  | succ k1 =>
   have H := HA.out
   clear HA
   simp only [talikref04_Sets.l0] at H
   by_cases c3 : x4_1 < (l0_0.length : Int)
   ·
    rw [if_pos c3] at H
    have c3b0 : decide (x4_1 < (l0_0.length : Int)) = true := decide_eq_true c3
    clear c3
    have H' := qac.mk H
    clear H
    have hcz4_0 : wr.cell? ⟨gb217, 0, none⟩ = some (.slice A0_0 l0_0.length c0_0) := (qaa BK217.out 0).trans rfl
    have hcz4_1 : wr.cell? ⟨gb217, 1, none⟩ = some (.slice A0_1 l0_1.length c0_1) := (qaa BK217.out 1).trans rfl
    have hcz4_2 : wr.cell? ⟨gb217, 2, none⟩ = some (.slice A0_2 l0_2.length c0_2) := (qaa BK217.out 2).trans rfl
    have hfz4_0 := qab BK217.out 0
    have hfz4_1 := qab BK217.out 1
    have hfz4_2 := qab BK217.out 2
    go_wp2
    go_roundg k1
    case measure => have := HK1.out; omega
    case rel => exact ⟨(wrap64 (2 * x3_1)), (wrap64 (x4_1 + 1)), (by first | rfl | (simp; done) | (simp [*]; done)), (by first | rfl | (simp; done) | (simp [*]; done)), H', ⟨by have := HK1.out; omega⟩, ⟨by (with_reducible repeat (first | refine qak ?_ _ | refine qap ?_ | refine qaj ?_ _)); exact BK217.out⟩, ⟨by repeat (first | (with_reducible first | exact HB.out | apply qae | apply qad | apply qaf | refine qag ?_ GE217.out) | exact HB.out)⟩⟩
   ·
    rw [if_neg c3] at H
    have c3b0 : decide (x4_1 < (l0_0.length : Int)) = false := decide_eq_false c3
    clear c3
    obtain rfl := Option.some.inj H
    have hcz5_0 : wr.cell? ⟨gb217, 0, none⟩ = some (.slice A0_0 l0_0.length c0_0) := (qaa BK217.out 0).trans rfl
    have hcz5_1 : wr.cell? ⟨gb217, 1, none⟩ = some (.slice A0_1 l0_1.length c0_1) := (qaa BK217.out 1).trans rfl
    have hcz5_2 : wr.cell? ⟨gb217, 2, none⟩ = some (.slice A0_2 l0_2.length c0_2) := (qaa BK217.out 2).trans rfl
    have hfz5_0 := qab BK217.out 0
    have hfz5_1 := qab BK217.out 1
    have hfz5_2 := qab BK217.out 2
    go_wp2
    go_ret
    exact ⟨by first | rfl | (simp [qas, qat] <;> rfl) | (simp [*, qas, qat] <;> rfl), by repeat (first | (with_reducible first | exact HB.out | apply qae | apply qad | apply qaf | refine qag ?_ GE217.out) | exact HB.out)⟩
def talikref04_Fault.f (k : Nat) (l0_0 : List (S39)) (l0_1 : List (S37)) (l0_2 : List (List Int)) (a1 : Int) : Option (Bool) := (talikref04_Sets.f k l0_0 l0_1 l0_2).bind fun t219 => ((talikref04_in.f a1 0 (wrap64 (t219 - 1))).bind fun t220 => (some t220))
set_option maxHeartbeats 8000000 in
set_option maxRecDepth 100000 in
theorem talikref04_Fault.calls (k : Nat) (A0_0 : Option Addr) (c0_0 : Nat) (l0_0 : List (S39)) (A0_1 : Option Addr) (c0_1 : Nat) (l0_1 : List (S37)) (A0_2 : Option Addr) (c0_2 : Nat) (l0_2 : List (List Int)) (a1 : Int) (r : Bool) (w : World) (hr0_0 : Kd.C k39 w A0_0 l0_0.length l0_0) (hc0_0 : l0_0.length ≤ c0_0) (hr0_1 : Kd.C k37 w A0_1 l0_1.length l0_1) (hc0_1 : l0_1.length ≤ c0_1) (hr0_2 : Kd.C (Kd.slice 3 (Kd.int .i64)) w A0_2 l0_2.length l0_2) (hc0_2 : l0_2.length ≤ c0_2) (h : talikref04_Fault.f k l0_0 l0_1 l0_2 a1 = some r) :
  Calls Try.prog 26 #[.agg #[.slice A0_0 l0_0.length c0_0, .slice A0_1 l0_1.length c0_1, .slice A0_2 l0_2.length c0_2], .int .i64 a1] w fun e w' => e = .returned (.bool r) ∧ Below w.heap.size w w' := by
 have hu26 := Try.underlying26
 have HR0_0 := qac.mk hr0_0
 have HC0_0 := qac.mk hc0_0
 clear hr0_0 hc0_0
 have HR0_1 := qac.mk hr0_1
 have HC0_1 := qac.mk hc0_1
 clear hr0_1 hc0_1
 have HR0_2 := qac.mk hr0_2
 have HC0_2 := qac.mk hc0_2
 clear hr0_2 hc0_2
 have HB := qac.mk (Below.refl w.heap.size w)
 have H : ((talikref04_Sets.f k l0_0 l0_1 l0_2).bind fun t219 => ((talikref04_in.f a1 0 (wrap64 (t219 - 1))).bind fun t220 => (some t220))) = some r := h
 clear h
 replace H := Option.bind_eq_some_iff.mp H
 obtain ⟨t219, A30, H⟩ := H
 replace H : ((talikref04_in.f a1 0 (wrap64 (t219 - 1))).bind fun t220 => (some t220)) = some r := H
 have A3 := qac.mk A30
 clear A30
 replace H := Option.bind_eq_some_iff.mp H
 obtain ⟨t220, A40, H⟩ := H
 replace H : (some t220) = some r := H
 have A4 := qac.mk A40
 clear A40
 obtain rfl := Option.some.inj H
 go_enter Try.func26, Try.ntmps26
 go_wp2_with (first | ((with_reducible refine qax (N := 2) rfl ?_); refine qaw ?hg (N := 2) ?hd (cs := #[.slice A0_0 l0_0.length c0_0, .slice A0_1 l0_1.length c0_1, .slice A0_2 l0_2.length c0_2]) (t := 26) ?hr ?_; (case hd => rfl); (case hg => rfl); (case hr => first | (go_simp; done) | (go_simp; rfl)); intro gb218 hg w5 hbox hb; have n0_ := qac.mk (qai (by repeat (first | (with_reducible first | exact HB.out | apply qae | apply qad | apply qaf) | exact HB.out)) hb); have n1_ := qac.mk (hbox); have n2_ := qac.mk ((by rw [hg]; exact (qar (by repeat (first | (with_reducible first | exact HB.out | apply qae | apply qad | apply qaf) | exact HB.out))) : w.heap.size ≤ gb218)); have n3_ := qac.mk ((by rw [hg]; exact (qar (by repeat (first | (with_reducible first | exact HB.out | apply qae | apply qad | apply qaf) | exact HB.out))) : w.heap.size ≤ gb218)); clear HB; have HB := n0_; have BK218 := n1_; have GW218 := n2_; have GE218 := n3_; clear n0_ n1_ n2_ n3_; clear hb hbox hg; have hcz6_0 : w5.cell? ⟨gb218, 0, none⟩ = some (.slice A0_0 l0_0.length c0_0) := (qaa BK218.out 0).trans rfl; have hcz6_1 : w5.cell? ⟨gb218, 1, none⟩ = some (.slice A0_1 l0_1.length c0_1) := (qaa BK218.out 1).trans rfl; have hcz6_2 : w5.cell? ⟨gb218, 2, none⟩ = some (.slice A0_2 l0_2.length c0_2) := (qaa BK218.out 2).trans rfl; have hfz6_0 := qab BK218.out 0; have hfz6_1 := qab BK218.out 1; have hfz6_2 := qab BK218.out 2) | ((with_reducible refine qau (f := 65) rfl ?_); refine goesL_ (some 7) rfl rfl Try.func65 (by kernel_rfl) rfl #[.agg #[.slice A0_0 l0_0.length c0_0, .slice A0_1 l0_1.length c0_1, .slice A0_2 l0_2.length c0_2]] rfl (by (try simp only [List.map_toArray, List.map_cons, List.map_nil]); first | done | rfl | (simp only [List.length_drop, List.length_take]; rfl)) ?_; (with_reducible refine (talikref04_Sets.calls k _ _ l0_0 _ _ l0_1 _ _ l0_2 t219 _ ?side1 ?side2 ?side3 ?side4 ?side5 ?side6 A3.out).mono ?_); (case side1 => repeat (first | exact (Kd.qal HR0_0.out HB.out) | (with_reducible refine Kd.qan ?_ _) | (with_reducible refine Kd.qao ?_ _) | (with_reducible refine Kd.qaq ?_))); (case side2 => exact HC0_0.out); (case side3 => repeat (first | exact (Kd.qal HR0_1.out HB.out) | (with_reducible refine Kd.qan ?_ _) | (with_reducible refine Kd.qao ?_ _) | (with_reducible refine Kd.qaq ?_))); (case side4 => exact HC0_1.out); (case side5 => repeat (first | exact (Kd.qal HR0_2.out HB.out) | (with_reducible refine Kd.qan ?_ _) | (with_reducible refine Kd.qao ?_ _) | (with_reducible refine Kd.qaq ?_))); (case side6 => exact HC0_2.out); rintro e w7 ⟨rfl, hb⟩; refine ⟨_, rfl, ?_⟩; have n0_ := qac.mk (qam (g := gb218) (o := .cells #[.slice A0_0 l0_0.length c0_0, .slice A0_1 l0_1.length c0_1, .slice A0_2 l0_2.length c0_2] 26 (0, 0)) (by (with_reducible repeat (first | refine qak ?_ _ | refine qap ?_ | refine qaj ?_ _)); exact BK218.out) hb); have n1_ := qac.mk (qai (by repeat (first | (with_reducible first | exact HB.out | apply qae | apply qad | apply qaf | refine qag ?_ GE218.out) | exact HB.out)) hb); clear BK218; clear HB; have BK218 := n0_; have HB := n1_; clear n0_ n1_; (try clear hb); (try clear hb2); (try clear hk); (try clear hi)) | ((with_reducible refine qau (f := 60) rfl ?_); refine goesL_ (some 9) rfl rfl Try.func60 (by kernel_rfl) rfl #[.int .i64 a1, .int .i64 0, .int .i64 (wrap64 (t219 - 1))] rfl (by (try simp only [List.map_toArray, List.map_cons, List.map_nil]); first | done | rfl | (simp only [List.length_drop, List.length_take]; rfl)) ?_; (with_reducible refine (talikref04_in.calls a1 0 (wrap64 (t219 - 1)) t220 _ A4.out).mono ?_); rintro e w' ⟨rfl, ⟨nd, rfl⟩⟩; refine ⟨_, rfl, ?_⟩))
 go_ret
 exact ⟨by first | rfl | (simp [qas, qat] <;> rfl) | (simp [*, qas, qat] <;> rfl), by repeat (first | (with_reducible first | exact HB.out | apply qae | apply qad | apply qaf | refine qag ?_ GE218.out) | exact HB.out)⟩
end Go.Proofs.Ytipphcjgdebecaa.PA
