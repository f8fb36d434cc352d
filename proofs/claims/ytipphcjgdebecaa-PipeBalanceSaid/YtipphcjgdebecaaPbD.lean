/- Parts of a proof about the pipe seat's laws: what the functions of the program answer. No condition of its own. -/
import Derived.Test.YtipphcjgdebecaaSC
import Derived.Test.YtipphcjgdebecaaSD
import Derived.Test.YtipphcjgdebecaaSF
import Derived.Test.YtipphcjgdebecaaPbA
import Derived.Test.YtipphcjgdebecaaPbB
import Derived.Test.YtipphcjgdebecaaPbC
import Derived.Test.YtipphcjgdebecaaSG
import Derived.Test.YtipphcjgdebecaaSO
set_option linter.all false
namespace Go.Proofs.Ytipphcjgdebecaa.PA
open Go.RowKit Go.Proofs.YtipphcjgdebecaaW.PrintWords Go.Proofs.YtipphcjgdebecaaW.PrintLast Go.Proofs.YtipphcjgdebecaaW.PrintMore
attribute [local go_sem] max2_int min2_int max_two min_two max_three min_three max_four min_four
theorem wsucc (i : Nat) (h : i ≤ 1000000) : wrap64 ((i : Int) + 1) = ((i + 1 : Nat) : Int) := by unfold wrap64; omega
def shortB (l0 : List S39) (l1 : List S37) (l2 : List (List Int)) : Bool := (l2.take 10).all (fun r => decide (r.length ≤ 10)) && (decide (l0.length ≤ 8) && (decide (l1.length ≤ 77) && decide (l2.length ≤ 10)))
theorem short_end (l0 : List S39) (l1 : List S37) (l2 : List (List Int)) (i : Int) (k : Nat) : taliklaw04_short.j1 (k + 1) i false l0 l1 l2 = some (decide (l0.length ≤ 8) && (decide (l1.length ≤ 77) && decide (l2.length ≤ 10))) := by
 unfold taliklaw04_short.j1
 rw [if_neg (by decide)]
 by_cases h0 : l0.length ≤ 8
 ·
  rw [if_pos (by omega)]
  by_cases h1 : l1.length ≤ 77
  ·
   rw [if_pos (by omega)]
   simp [h0, h1]
   omega
  ·
   rw [if_neg (by omega)]
   simp [h1]
 ·
  rw [if_neg (by omega)]
  simp [h0]
theorem rd_L1_at (l2 : List (List Int)) (i : Nat) (h : i < l2.length) : rd_L1 l2 (i : Int) = l2[i] := by simp [rd_L1, h]
theorem short_go (l0 : List S39) (l1 : List S37) (l2 : List (List Int)) : ∀ (m i k : Nat), i + m = 10 → 2 * m + 2 ≤ k → taliklaw04_short.l0 k (i : Int) l0 l1 l2 = some (((l2.drop i).take m).all (fun r => decide (r.length ≤ 10)) && (decide (l0.length ≤ 8) && (decide (l1.length ≤ 77) && decide (l2.length ≤ 10)))) := by
 intro m
 induction m with
 | zero =>
  intro i k hi hk
  obtain ⟨k, rfl⟩ : ∃ k', k = k' + 2 := ⟨k - 2, by omega⟩
  unfold taliklaw04_short.l0
  have hd : decide ((i : Int) < 10) = false := by simp; omega
  rw [hd, short_end]
  simp
 | succ m ih =>
  intro i k hi hk
  obtain ⟨k, rfl⟩ : ∃ k', k = k' + 2 := ⟨k - 2, by omega⟩
  unfold taliklaw04_short.l0
  by_cases hlt : i < l2.length
  ·
   have hd : decide ((i : Int) < 10) = true := by simp; omega
   rw [if_pos (by omega), hd]
   unfold taliklaw04_short.j1
   rw [if_pos rfl, if_pos (by omega), if_pos (by omega), rd_L1_at l2 i hlt, List.drop_eq_getElem_cons hlt, List.take_succ_cons, List.all_cons]
   by_cases hr : l2[i].length ≤ 10
   ·
    rw [if_neg (by omega), wsucc i (by omega), ih (i + 1) k (by omega) (by omega)]
    simp [hr]
   ·
    rw [if_pos (by omega)]
    simp [hr]
  ·
   rw [if_neg (by omega), short_end, List.drop_eq_nil_of_le (by omega)]
   simp
theorem short_eq (l0 : List S39) (l1 : List S37) (l2 : List (List Int)) (k : Nat) (hk : 22 ≤ k) : taliklaw04_short.f k l0 l1 l2 = some (shortB l0 l1 l2) := short_go l0 l1 l2 10 0 k rfl (by omega)
structure Short (l0 : List S39) (l1 : List S37) (l2 : List (List Int)) : Prop where
 h0 : l0.length ≤ 8
 h1 : l1.length ≤ 77
 h2 : l2.length ≤ 10
 hr : ∀ i (h : i < l2.length), l2[i].length ≤ 10
theorem short_of {l0 : List S39} {l1 : List S37} {l2 : List (List Int)} (h : shortB l0 l1 l2 = true) : Short l0 l1 l2 := by
 unfold shortB at h
 simp only [Bool.and_eq_true, decide_eq_true_eq] at h
 obtain ⟨h1, h2, h3, h4⟩ := h
 rw [List.take_of_length_le h4, List.all_eq_true] at h1
 exact ⟨h2, h3, h4, fun i hi => by simpa using h1 _ (List.getElem_mem hi)⟩
theorem rspan_eq (s : S37) (lo hi : Int) : talikref04_Span.f s.f0 s.f1 lo hi = some (spanB s lo hi) := by
 unfold talikref04_Span.f spanB
 by_cases h1 : s.f0 ≥ lo <;> by_cases h2 : s.f0 ≤ s.f1 <;> simp [h1, h2]
theorem rin_eq (x lo hi : Int) : talikref04_in.f x lo hi = some (inB x lo hi) := by
 unfold talikref04_in.f inB
 by_cases h : x ≥ lo <;> simp [h]
theorem rloop_eq (l : S39) : talikref04_Loop.f l.f0.f0 l.f0.f1 l.f1.f0 l.f1.f1 l.f2.f0 l.f2.f1 l.f3 l.f4 l.f5 l.f6 l.f7.f0 l.f7.f1 = some (loopB l) := by
 unfold talikref04_Loop.f loopB
 rw [rspan_eq l.f0, rspan_eq l.f1, rspan_eq l.f2, rspan_eq l.f7, rin_eq, rin_eq, rin_eq, rin_eq]
 simp only [Option.bind_some]
 cases spanB l.f0 1 1000 <;> cases spanB l.f1 0 1000 <;> cases spanB l.f2 0 1000 <;> by_cases h1 : l.f2.f0 ≤ l.f1.f0 <;> by_cases h2 : l.f2.f1 ≤ l.f1.f1 <;> simp [h1, h2]
 cases inB l.f3 0 1000000 <;> cases inB l.f4 1 10000 <;> cases inB l.f5 0 1000 <;> cases inB l.f6 0 1000 <;> simp
def chkR (i : Nat) : List Int → Nat → Bool
 | [], _ => true
 | h :: t, j => inB h 0 72 && ((i != j || h == 0) && chkR i t (j + 1))
def rowsR (n : Nat) : List (List Int) → Nat → Bool
 | [], _ => true
 | r :: t, i => decide (r.length = n) && (chkR i r 0 && rowsR n t (i + 1))
def finR (l0 : List S39) (l1 : List S37) (l2 : List (List Int)) : Bool := inB l0.length 1 5 && (inB l1.length 1 72 && decide (l2.length = l0.length + 1))
theorem net3_go (l0 : List S39) (l1 : List S37) (l2 : List (List Int)) (i : Nat) (hi : i < l2.length) (b : Bool) (K : Nat) (hb : ∀ k, K ≤ k → talikref04_Net.l2 k ((i + 1 : Nat) : Int) l0 l1 l2 = some b) (hi6 : i ≤ 1000) (hr : l2[i].length ≤ 1000) :
  ∀ (m j k : Nat), j + m = l2[i].length → m + 1 + K ≤ k → talikref04_Net.l3 k (i : Int) (j : Int) l0 l1 l2 = some (chkR i (l2[i].drop j) j && b) := by
 intro m
 induction m with
 | zero =>
  intro j k hj hk
  obtain ⟨k, rfl⟩ : ∃ k', k = k' + 1 := ⟨k - 1, by omega⟩
  unfold talikref04_Net.l3
  rw [if_pos (by omega), if_pos (by omega), rd_L1_at l2 i hi, if_neg (by omega), wsucc i (by omega), hb k (by omega), List.drop_eq_nil_of_le (by omega)]
  simp [chkR]
 | succ m ih =>
  intro j k hj hk
  obtain ⟨k, rfl⟩ : ∃ k', k = k' + 1 := ⟨k - 1, by omega⟩
  unfold talikref04_Net.l3
  have hjl : j < l2[i].length := by omega
  have hrd : rd l2[i] (j : Int) = l2[i][j] := by simp [rd, hjl]
  rw [if_pos (by omega), if_pos (by omega), rd_L1_at l2 i hi, if_pos (by omega), if_pos (by omega), rin_eq, hrd, wsucc j (by omega), ih (j + 1) k (by omega) (by omega), List.drop_eq_getElem_cons hjl]
  simp only [Option.bind_some, chkR]
  generalize l2[i][j] = h
  cases inB h 0 72
  ·
   simp
  ·
   by_cases he : i = j
   ·
    by_cases h0 : h = 0
    ·
     simp [he, h0]
    ·
     simp [he, h0]
   ·
    have hz : ¬ ((i : Int) = (j : Int)) := by omega
    have hn : (i != j) = true := by simp [he]
    simp [hz, hn]
theorem net2_go (l0 : List S39) (l1 : List S37) (l2 : List (List Int)) (hs : Short l0 l1 l2) :
  ∀ (m i k : Nat), i + m = l2.length → 13 * m + 1 ≤ k → talikref04_Net.l2 k (i : Int) l0 l1 l2 = some (rowsR (l0.length + 1) (l2.drop i) i && finR l0 l1 l2) := by
 have h0 := hs.h0
 have h2 := hs.h2
 have hw : wrap64 ((l0.length : Int) + 1) = ((l0.length + 1 : Nat) : Int) := wsucc _ (by omega)
 intro m
 induction m with
 | zero =>
  intro i k hi hk
  obtain ⟨k, rfl⟩ : ∃ k', k = k' + 1 := ⟨k - 1, by omega⟩
  unfold talikref04_Net.l2
  rw [if_neg (by omega), rin_eq, rin_eq, hw, List.drop_eq_nil_of_le (by omega)]
  simp only [Option.bind_some, rowsR, finR, Bool.true_and]
  have e : ((l2.length : Int) == ((l0.length + 1 : Nat) : Int)) = decide (l2.length = l0.length + 1) := by
   rw [Bool.eq_iff_iff]
   simp
   omega
  rw [e]
  cases inB (l0.length : Int) 1 5 <;> cases inB (l1.length : Int) 1 72 <;> simp
 | succ m ih =>
  intro i k hi hk
  obtain ⟨k, rfl⟩ : ∃ k', k = k' + 1 := ⟨k - 1, by omega⟩
  have hil : i < l2.length := by omega
  have hr := hs.hr i hil
  unfold talikref04_Net.l2
  rw [if_pos (by omega), if_pos (by omega), rd_L1_at l2 i hil, hw, List.drop_eq_getElem_cons hil]
  simp only [rowsR]
  by_cases hl : l2[i].length = l0.length + 1
  ·
   rw [if_pos (by omega), show (0 : Int) = ((0 : Nat) : Int) from rfl, net3_go l0 l1 l2 i hil _ (13 * m + 1) (fun k hk => ih (i + 1) k (by omega) hk) (by omega) (by omega) l2[i].length 0 k (by omega) (by omega)]
   simp [hl, Bool.and_assoc]
  ·
   rw [if_neg (by omega)]
   simp [hl]
theorem net1_go (l0 : List S39) (l1 : List S37) (l2 : List (List Int)) (hs : Short l0 l1 l2) :
  ∀ (m i k : Nat), i + m = l1.length → m + 140 ≤ k → talikref04_Net.l1 k (i : Int) l0 l1 l2 = some ((l1.drop i).all (fun s => spanB s 0 1000) && (rowsR (l0.length + 1) l2 0 && finR l0 l1 l2)) := by
 have h1 := hs.h1
 have h2 := hs.h2
 intro m
 induction m with
 | zero =>
  intro i k hi hk
  obtain ⟨k, rfl⟩ : ∃ k', k = k' + 1 := ⟨k - 1, by omega⟩
  unfold talikref04_Net.l1
  rw [if_neg (by omega), show (0 : Int) = ((0 : Nat) : Int) from rfl, net2_go l0 l1 l2 hs l2.length 0 k (by omega) (by omega), List.drop_zero, show l1.drop i = [] from List.drop_eq_nil_of_le (by omega)]
  simp
 | succ m ih =>
  intro i k hi hk
  obtain ⟨k, rfl⟩ : ∃ k', k = k' + 1 := ⟨k - 1, by omega⟩
  have hil : i < l1.length := by omega
  have e : rd_T37 l1 (i : Int) = l1[i] := by simp [rd_T37, hil]
  unfold talikref04_Net.l1
  rw [if_pos (by omega), if_pos (by omega), e, rspan_eq, wsucc i (by omega), ih (i + 1) k (by omega) (by omega), List.drop_eq_getElem_cons hil]
  simp only [Option.bind_some, List.all_cons]
  cases spanB l1[i] 0 1000 <;> simp
theorem net0_go (l0 : List S39) (l1 : List S37) (l2 : List (List Int)) (hs : Short l0 l1 l2) :
  ∀ (m i k : Nat), i + m = l0.length → m + 230 ≤ k → talikref04_Net.l0 k (i : Int) l0 l1 l2 = some ((l0.drop i).all loopB && (l1.all (fun s => spanB s 0 1000) && (rowsR (l0.length + 1) l2 0 && finR l0 l1 l2))) := by
 have h0 := hs.h0
 have h1 := hs.h1
 intro m
 induction m with
 | zero =>
  intro i k hi hk
  obtain ⟨k, rfl⟩ : ∃ k', k = k' + 1 := ⟨k - 1, by omega⟩
  unfold talikref04_Net.l0
  rw [if_neg (by omega), show (0 : Int) = ((0 : Nat) : Int) from rfl, net1_go l0 l1 l2 hs l1.length 0 k (by omega) (by omega), List.drop_zero, show l0.drop i = [] from List.drop_eq_nil_of_le (by omega)]
  simp
 | succ m ih =>
  intro i k hi hk
  obtain ⟨k, rfl⟩ : ∃ k', k = k' + 1 := ⟨k - 1, by omega⟩
  have hil : i < l0.length := by omega
  have e : qah l0 (i : Int) = l0[i] := by simp [qah, hil]
  unfold talikref04_Net.l0
  rw [if_pos (by omega), if_pos (by omega), e, rloop_eq, wsucc i (by omega), ih (i + 1) k (by omega) (by omega), List.drop_eq_getElem_cons hil]
  simp only [Option.bind_some, List.all_cons]
  cases loopB l0[i] <;> simp
theorem chkR_iff (i : Nat) : ∀ (row : List Int) (j : Nat), chkR i row j = true ↔ (∀ h ∈ row, inB h 0 72 = true) ∧ (∀ n (h : n < row.length), j + n = i → row[n] = 0)
 | [], j => by simp [chkR]
 | h :: t, j => by
  simp only [chkR, Bool.and_eq_true, Bool.or_eq_true, chkR_iff i t (j + 1), bne_iff_ne, ne_eq, beq_iff_eq, List.mem_cons, forall_eq_or_imp]
  constructor
  ·
   rintro ⟨h1, h2, h3, h4⟩
   refine ⟨⟨h1, h3⟩, fun n hn he => ?_⟩
   cases n with
   | zero => exact h2.resolve_left (fun hne => hne (by omega))
   | succ n => simpa using h4 n (by simpa using hn) (by omega)
  ·
   rintro ⟨⟨h1, h3⟩, h4⟩
   refine ⟨h1, ?_, h3, fun n hn he => h4 (n + 1) (by simp only [List.length_cons]; omega) (by omega)⟩
   by_cases he : i = j
   ·
    exact .inr (h4 0 (by simp) (by omega))
   ·
    exact .inl he
theorem rowsR_iff (n : Nat) : ∀ (l : List (List Int)) (i : Nat), rowsR n l i = true ↔ ∀ m (h : m < l.length), l[m].length = n ∧ chkR (i + m) l[m] 0 = true
 | [], i => by simp [rowsR]
 | r :: t, i => by
  simp only [rowsR, Bool.and_eq_true, decide_eq_true_eq, rowsR_iff n t (i + 1)]
  constructor
  ·
   rintro ⟨h1, h2, h3⟩ m hm
   cases m with
   | zero => exact ⟨h1, h2⟩
   | succ m => have := h3 m (by simpa using hm); simpa [Nat.add_assoc, Nat.add_comm 1 m] using this
  ·
   intro h
   refine ⟨(h 0 (by simp)).1, (h 0 (by simp)).2, fun m hm => ?_⟩
   have := h (m + 1) (by simpa using hm)
   simpa [Nat.add_assoc, Nat.add_comm 1 m] using this
theorem rows_ways (l0 : List S39) (l2 : List (List Int)) (hl : l2.length = l0.length + 1) : rowsR (l0.length + 1) l2 0 = waysB (l0.length + 1) l2 := by
 rw [Bool.eq_iff_iff, rowsR_iff]
 unfold waysB
 rw [List.all_eq_true]
 constructor
 ·
  intro h j hj
  have hj' : j < l2.length := by simpa using hj
  obtain ⟨h1, h2⟩ := h j hj'
  rw [Nat.zero_add, chkR_iff] at h2
  have e : l2.getD j [] = l2[j] := by simp [hj']
  rw [e]
  unfold rowB
  simp only [Bool.and_eq_true, decide_eq_true_eq, List.all_eq_true]
  have hz := h2.2 j (by omega) (by omega)
  refine ⟨by omega, ?_, h2.1⟩
  simp [rd, show j < l2[j].length by omega, hz]
 ·
  intro h m hm
  have h1 := h m (by simpa using hm)
  have e : l2.getD m [] = l2[m] := by simp [hm]
  rw [e] at h1
  unfold rowB at h1
  simp only [Bool.and_eq_true, decide_eq_true_eq, List.all_eq_true] at h1
  obtain ⟨h2, h3, h4⟩ := h1
  have h5 : l2[m].length = l0.length + 1 := by omega
  refine ⟨h5, ?_⟩
  rw [Nat.zero_add, chkR_iff]
  refine ⟨h4, fun n hn he => ?_⟩
  obtain rfl : n = m := by omega
  simpa [rd, hn] using h3
theorem net_eq (l0 : List S39) (l1 : List S37) (l2 : List (List Int)) (hs : Short l0 l1 l2) (k : Nat) (hk : 240 ≤ k) : talikref04_Net.f k l0 l1 l2 = some (validB l0 l1 l2) := by
 have h := net0_go l0 l1 l2 hs l0.length 0 k (by omega) (by have := hs.h0; omega)
 have h' : talikref04_Net.f k l0 l1 l2 = some (l0.all loopB && (l1.all (fun s => spanB s 0 1000) && (rowsR (l0.length + 1) l2 0 && finR l0 l1 l2))) := by
  unfold talikref04_Net.f
  simpa using h
 rw [h']
 congr 1
 unfold finR validB
 by_cases hl : l2.length = l0.length + 1
 ·
  have e1 : decide ((l2.length : Int) = (l0.length : Int) + 1) = true := by simp; omega
  rw [rows_ways l0 l2 hl, e1]
  simp only [hl, decide_true, Bool.and_true, Bool.true_and]
  cases l0.all loopB <;> cases (l1.all fun s => spanB s 0 1000) <;> cases waysB ((l0.length : Int) + 1) l2 <;> cases inB (l0.length : Int) 1 5 <;> cases inB (l1.length : Int) 1 72 <;> simp
 ·
  have e1 : decide ((l2.length : Int) = (l0.length : Int) + 1) = false := by simp; omega
  rw [e1]
  simp [hl]
end Go.Proofs.Ytipphcjgdebecaa.PA
namespace Go.Proofs.Ytipphcjgdebecaa.PA
open Go.RowKit Go.Proofs.YtipphcjgdebecaaW.PrintWords Go.Proofs.YtipphcjgdebecaaW.PrintLast Go.Proofs.YtipphcjgdebecaaW.PrintMore
attribute [local go_sem] max2_int min2_int max_two min_two max_three min_three max_four min_four
def talikref04_IsLoop.f (l0_0 : List (S39)) (l0_1 : List (S37)) (l0_2 : List (List Int)) (a1 : Int) : Option (Bool) := (talikref04_in.f a1 0 (wrap64 ((l0_0.length : Int) - 1))).bind fun t182 => (some t182)
set_option maxHeartbeats 8000000 in
set_option maxRecDepth 100000 in
theorem talikref04_IsLoop.calls (A0_0 : Option Addr) (c0_0 : Nat) (l0_0 : List (S39)) (A0_1 : Option Addr) (c0_1 : Nat) (l0_1 : List (S37)) (A0_2 : Option Addr) (c0_2 : Nat) (l0_2 : List (List Int)) (a1 : Int) (r : Bool) (w : World) (hr0_0 : Kd.C k39 w A0_0 l0_0.length l0_0) (hc0_0 : l0_0.length ≤ c0_0) (hr0_1 : Kd.C k37 w A0_1 l0_1.length l0_1) (hc0_1 : l0_1.length ≤ c0_1) (hr0_2 : Kd.C (Kd.slice 3 (Kd.int .i64)) w A0_2 l0_2.length l0_2) (hc0_2 : l0_2.length ≤ c0_2) (h : talikref04_IsLoop.f l0_0 l0_1 l0_2 a1 = some r) :
  Calls Try.prog 20 #[.agg #[.slice A0_0 l0_0.length c0_0, .slice A0_1 l0_1.length c0_1, .slice A0_2 l0_2.length c0_2], .int .i64 a1] w fun e w' => e = .returned (.bool r) ∧ Below w.heap.size w w' := by
 have hu26 := Try.underlying26
 have HR0_0 := qac.mk hr0_0
 have HC0_0 := qac.mk hc0_0
 clear hr0_0 hc0_0
 have HR0_1 := qac.mk hr0_1
 have HC0_1 := qac.mk hc0_1
 clear hr0_1 hc0_1
 have HR0_2 := qac.mk hr0_2
 have HC0_2 := qac.mk hc0_2
 clear hr0_2 hc0_2
 have HB := qac.mk (Below.refl w.heap.size w)
 have H : ((talikref04_in.f a1 0 (wrap64 ((l0_0.length : Int) - 1))).bind fun t182 => (some t182)) = some r := h
 clear h
 replace H := Option.bind_eq_some_iff.mp H
 obtain ⟨t182, A30, H⟩ := H
 replace H : (some t182) = some r := H
 have A3 := qac.mk A30
 clear A30
 obtain rfl := Option.some.inj H
 go_enter Try.func20, Try.ntmps20
 go_wp2_with (first | ((with_reducible refine qax (N := 2) rfl ?_); refine qaw ?hg (N := 2) ?hd (cs := #[.slice A0_0 l0_0.length c0_0, .slice A0_1 l0_1.length c0_1, .slice A0_2 l0_2.length c0_2]) (t := 26) ?hr ?_; (case hd => rfl); (case hg => rfl); (case hr => first | (go_simp; done) | (go_simp; rfl)); intro gb181 hg w4 hbox hb; have n0_ := qac.mk (qai (by repeat (first | (with_reducible first | exact HB.out | apply qae | apply qad | apply qaf) | exact HB.out)) hb); have n1_ := qac.mk (hbox); have n2_ := qac.mk ((by rw [hg]; exact (qar (by repeat (first | (with_reducible first | exact HB.out | apply qae | apply qad | apply qaf) | exact HB.out))) : w.heap.size ≤ gb181)); have n3_ := qac.mk ((by rw [hg]; exact (qar (by repeat (first | (with_reducible first | exact HB.out | apply qae | apply qad | apply qaf) | exact HB.out))) : w.heap.size ≤ gb181)); clear HB; have HB := n0_; have BK181 := n1_; have GW181 := n2_; have GE181 := n3_; clear n0_ n1_ n2_ n3_; clear hb hbox hg; have hcz5_0 : w4.cell? ⟨gb181, 0, none⟩ = some (.slice A0_0 l0_0.length c0_0) := (qaa BK181.out 0).trans rfl; have hcz5_1 : w4.cell? ⟨gb181, 1, none⟩ = some (.slice A0_1 l0_1.length c0_1) := (qaa BK181.out 1).trans rfl; have hcz5_2 : w4.cell? ⟨gb181, 2, none⟩ = some (.slice A0_2 l0_2.length c0_2) := (qaa BK181.out 2).trans rfl; have hfz5_0 := qab BK181.out 0; have hfz5_1 := qab BK181.out 1; have hfz5_2 := qab BK181.out 2) | ((with_reducible refine qau (f := 60) rfl ?_); refine goesL_ (some 10) rfl rfl Try.func60 (by kernel_rfl) rfl #[.int .i64 a1, .int .i64 0, .int .i64 (wrap64 ((l0_0.length : Int) - 1))] rfl (by (try simp only [List.map_toArray, List.map_cons, List.map_nil]); first | done | rfl | (simp only [List.length_drop, List.length_take]; rfl)) ?_; (with_reducible refine (talikref04_in.calls a1 0 (wrap64 ((l0_0.length : Int) - 1)) t182 _ A3.out).mono ?_); rintro e w' ⟨rfl, ⟨nd, rfl⟩⟩; refine ⟨_, rfl, ?_⟩))
 go_ret
 exact ⟨by first | rfl | (simp [qas, qat] <;> rfl) | (simp [*, qas, qat] <;> rfl), by repeat (first | (with_reducible first | exact HB.out | apply qae | apply qad | apply qaf | refine qag ?_ GE181.out) | exact HB.out)⟩
end Go.Proofs.Ytipphcjgdebecaa.PA
namespace Go.Proofs.Ytipphcjgdebecaa.PA
open Go.RowKit Go.Proofs.YtipphcjgdebecaaW.PrintWords Go.Proofs.YtipphcjgdebecaaW.PrintLast Go.Proofs.YtipphcjgdebecaaW.PrintMore
attribute [local go_sem] max2_int min2_int max_two min_two max_three min_three max_four min_four
theorem wrap_id {x : Int} (h0 : -9223372036854775808 ≤ x) (h1 : x ≤ 9223372036854775807) : wrap64 x = x := by unfold wrap64; omega
structure LoopOk (L : S39) : Prop where
 w0 : 1 ≤ L.f0.f0
 w1 : L.f0.f0 ≤ L.f0.f1
 w2 : L.f0.f1 ≤ 1000
 k0 : 0 ≤ L.f1.f0
 k1 : L.f1.f0 ≤ L.f1.f1
 k2 : L.f1.f1 ≤ 1000
 p0 : 0 ≤ L.f2.f0
 p1 : L.f2.f0 ≤ L.f2.f1
 p2 : L.f2.f1 ≤ 1000
 q0 : L.f2.f0 ≤ L.f1.f0
 q1 : L.f2.f1 ≤ L.f1.f1
 c0 : 0 ≤ L.f3
 c1 : L.f3 ≤ 1000000
 m0 : 1 ≤ L.f4
 m1 : L.f4 ≤ 10000
 g0 : 0 ≤ L.f5
 g1 : L.f5 ≤ 1000
 e0 : 0 ≤ L.f6
 e1 : L.f6 ≤ 1000
 x0 : 0 ≤ L.f7.f0
 x1 : L.f7.f0 ≤ L.f7.f1
 x2 : L.f7.f1 ≤ 72
theorem loop_ok {L : S39} (h : loopB L = true) : LoopOk L := by
 unfold loopB spanB inB at h
 simp only [Bool.and_eq_true, decide_eq_true_eq] at h
 obtain ⟨⟨a1, a2, a3⟩, ⟨b1, b2, b3⟩, ⟨c1, c2, c3⟩, d, e, ⟨f1, f2⟩, ⟨g1, g2⟩, ⟨h1, h2⟩, ⟨i1, i2⟩, j1, j2, j3⟩ := h
 exact ⟨a1, a2, a3, b1, b2, b3, c1, c2, c3, d, e, f1, f2, g1, g2, h1, h2, i1, i2, j1, j2, j3⟩
structure NetOk (l0 : List S39) (l1 : List S37) (l2 : List (List Int)) : Prop where
 n0 : 1 ≤ l0.length
 n1 : l0.length ≤ 5
 h0 : 1 ≤ l1.length
 h1 : l1.length ≤ 72
 m : l2.length = l0.length + 1
 ways : ∀ i (h : i < l2.length), l2[i].length = l0.length + 1 ∧ rd l2[i] i = 0 ∧ ∀ x ∈ l2[i], 0 ≤ x ∧ x ≤ 72
 loops : ∀ L ∈ l0, LoopOk L
 frost : ∀ F ∈ l1, 0 ≤ F.f0 ∧ F.f0 ≤ F.f1 ∧ F.f1 ≤ 1000
theorem net_ok {l0 : List S39} {l1 : List S37} {l2 : List (List Int)} (h : validB l0 l1 l2 = true) : NetOk l0 l1 l2 := by
 unfold validB at h
 simp only [Bool.and_eq_true, List.all_eq_true] at h
 obtain ⟨h1, h2, h3, h4, h5, h6⟩ := h
 unfold inB at h3 h4
 simp only [Bool.and_eq_true, decide_eq_true_eq] at h1 h3 h4
 refine ⟨by omega, by omega, by omega, by omega, by omega, fun i hi => ?_, fun L hL => loop_ok (h5 L hL), fun F hF => ?_⟩
 ·
  unfold waysB at h2
  rw [List.all_eq_true] at h2
  have h7 := h2 i (by simpa using hi)
  have e : l2.getD i [] = l2[i] := by simp [hi]
  rw [e] at h7
  unfold rowB inB at h7
  simp only [Bool.and_eq_true, decide_eq_true_eq, List.all_eq_true] at h7
  exact ⟨by omega, h7.2.1, h7.2.2⟩
 ·
  have h7 := h6 F hF
  unfold spanB at h7
  simp only [Bool.and_eq_true, decide_eq_true_eq] at h7
  exact h7
theorem mn_min (a b : Int) : mn a b = min a b := by unfold mn; split <;> omega
theorem mul_small {a b A B : Int} (ha0 : 0 ≤ a) (ha : a ≤ A) (hb0 : 0 ≤ b) (hb : b ≤ B) : 0 ≤ a * b ∧ a * b ≤ A * B :=
 ⟨Int.mul_nonneg ha0 hb0, Int.mul_le_mul ha hb hb0 (by omega)⟩
theorem tdiv_small {a : Int} (h : 0 ≤ a) : 0 ≤ Int.tdiv a 1000 ∧ Int.tdiv a 1000 ≤ a := by
 rw [Int.tdiv_eq_ediv_of_nonneg h]
 omega
structure HeatOk (n : Nat) (x : Heat4) : Prop where
 a0 : 0 ≤ x.1
 a1 : x.1 ≤ 1000 * (n + 1)
 b0 : 0 ≤ x.2.1
 b1 : x.2.1 ≤ 10000000 * n
 c0 : 0 ≤ x.2.2.1
 c1 : x.2.2.1 ≤ 2000000000 * n
 d0 : 0 ≤ x.2.2.2
 d1 : x.2.2.2 ≤ 2000000000 * n
theorem feed_bd {L : S39} (hL : LoopOk L) (T : S44) : 0 ≤ feedV L T ∧ feedV L T ≤ 1000 := by
 unfold feedV
 split
 ·
  exact ⟨hL.e0, hL.e1⟩
 ·
  omega
theorem sum2_id {a b : Int} (ha0 : -1000000000000000000 ≤ a) (ha1 : a ≤ 1000000000000000000) (hb0 : -1000000000000000000 ≤ b) (hb1 : b ≤ 1000000000000000000) : sumV [a, b] = a + b := by
 show wrap64 (wrap64 (0 + a) + b) = a + b
 unfold wrap64
 omega
theorem sum3_id {a b c : Int} (ha0 : -1000000000000000000 ≤ a) (ha1 : a ≤ 1000000000000000000) (hb0 : -1000000000000000000 ≤ b) (hb1 : b ≤ 1000000000000000000) (hc0 : -1000000000000000000 ≤ c) (hc1 : c ≤ 1000000000000000000) : sumV [a, b, c] = a + b + c := by
 show wrap64 (wrap64 (wrap64 (0 + a) + b) + c) = a + b + c
 unfold wrap64
 omega
theorem step_eq {L : S39} (hL : LoopOk L) {T : S44} (hk0 : 0 ≤ T.f0) (hk1 : T.f0 ≤ 1000) (hf0 : 0 ≤ T.f1) (hf1 : T.f1 ≤ 1000) {n : Nat} (hn : n ≤ 100) {x : Heat4} (hx : HeatOk n x) :
  stepH L T x = stepR L T x ∧ HeatOk (n + 1) (stepR L T x) ∧ (∃ lost, 0 ≤ lost ∧ lost ≤ x.1 + feedV L T ∧ 0 ≤ L.f4 * lost * L.f5 / 1000 ∧ L.f4 * lost * L.f5 / 1000 ≤ L.f4 * lost ∧ lossR L x.1 T = lost ∧
   stepR L T x = (x.1 + feedV L T - lost, x.2.1 + L.f4 * feedV L T, x.2.2.1 + L.f4 * lost * L.f5 / 1000, x.2.2.2 + L.f4 * lost - L.f4 * lost * L.f5 / 1000)) := by
 obtain ⟨e0, e1⟩ := feed_bd hL T
 have ha0 := hx.a0
 have ha1 := hx.a1
 have hb0 := hx.b0
 have hb1 := hx.b1
 have hc0 := hx.c0
 have hc1 := hx.c1
 have hd0 := hx.d0
 have hd1 := hx.d1
 have hm0 := hL.m0
 have hm1 := hL.m1
 have hg0 := hL.g0
 have hg1 := hL.g1
 have p1 := mul_small hk0 hk1 (b := x.1 + T.f1) (B := 200000) (by omega) (by omega)
 obtain ⟨d0, d1⟩ := tdiv_small p1.1
 have w1 : wrap64 (x.1 + T.f1) = x.1 + T.f1 := wrap_id (by omega) (by omega)
 have w2 : wrap64 (T.f0 * (x.1 + T.f1)) = T.f0 * (x.1 + T.f1) := wrap_id (by omega) (by omega)
 have w3 : wrap64 (Int.tdiv (T.f0 * (x.1 + T.f1)) 1000) = Int.tdiv (T.f0 * (x.1 + T.f1)) 1000 := wrap_id (by omega) (by omega)
 have hmost : (if T.f2 = true then wrap64 (x.1 + L.f6) else x.1) = x.1 + feedV L T := by
  have := hL.e0
  have := hL.e1
  unfold feedV
  split
  ·
   exact wrap_id (by omega) (by omega)
  ·
   omega
 have hR : lossR L x.1 T = min (x.1 + feedV L T) (Int.tdiv (T.f0 * (x.1 + T.f1)) 1000) := by
  unfold lossR
  rw [hmost, w1, w2, w3, mn_min]
 have hI : lossI T.f0 T.f1 x.1 (feedV L T) = min (x.1 + feedV L T) (Int.tdiv (T.f0 * (x.1 + T.f1)) 1000) := by
  unfold lossI
  rw [w1, w2, w3, wrap_id (x := x.1 + feedV L T) (by omega) (by omega), mn_min, Int.min_comm]
 obtain ⟨lost, hlost⟩ : ∃ lost, lost = min (x.1 + feedV L T) (Int.tdiv (T.f0 * (x.1 + T.f1)) 1000) := ⟨_, rfl⟩
 rw [← hlost] at hR hI
 have l0 : 0 ≤ lost := by omega
 have l1 : lost ≤ x.1 + feedV L T := by omega
 clear hlost w1 w2 w3 hmost p1 d0 d1
 obtain ⟨feed, hfeed⟩ : ∃ feed, feedV L T = feed := ⟨_, rfl⟩
 rw [hfeed] at e0 e1 hI l1
 rw [hfeed]
 obtain ⟨m0, m1⟩ := mul_small (a := L.f4) (A := 10000) (b := lost) (B := 200000) (by omega) hm1 l0 (by omega)
 obtain ⟨n0, n1⟩ := mul_small (a := L.f4 * lost) (A := 2000000000) (b := L.f5) (B := 1000) m0 (by omega) hg0 hg1
 obtain ⟨f0, f1⟩ := mul_small (a := L.f4) (A := 10000) (b := feed) (B := 1000) (by omega) hm1 e0 e1
 have gle : L.f4 * lost * L.f5 ≤ L.f4 * lost * 1000 := Int.mul_le_mul_of_nonneg_left hg1 m0
 have gd0 : 0 ≤ L.f4 * lost * L.f5 / 1000 := by omega
 have gd1 : L.f4 * lost * L.f5 / 1000 ≤ L.f4 * lost := by omega
 have gt : Int.tdiv (L.f4 * lost * L.f5) 1000 = L.f4 * lost * L.f5 / 1000 := Int.tdiv_eq_ediv_of_nonneg n0
 have hgR : groundR L lost = L.f4 * lost * L.f5 / 1000 := by
  unfold groundR
  rw [wrap_id (x := L.f4 * lost) (by omega) (by omega), wrap_id (x := L.f4 * lost * L.f5) (by omega) (by omega), gt, wrap_id (by omega) (by omega)]
 have hcm : lost * L.f4 = L.f4 * lost := Int.mul_comm _ _
 have hcf : feed * L.f4 = L.f4 * feed := Int.mul_comm _ _
 have hgV : groundV L lost = L.f4 * lost * L.f5 / 1000 := by
  unfold groundV
  rw [hcm, wrap_id (x := L.f4 * lost) (by omega) (by omega), wrap_id (x := L.f4 * lost * L.f5) (by omega) (by omega), gt, wrap_id (by omega) (by omega)]
 have key : stepR L T x = (x.1 + feed - lost, x.2.1 + L.f4 * feed, x.2.2.1 + L.f4 * lost * L.f5 / 1000, x.2.2.2 + L.f4 * lost - L.f4 * lost * L.f5 / 1000) := by
  unfold stepR
  rw [hfeed, hR, hgR, wrap_id (x := L.f4 * feed) (by omega) (by omega), wrap_id (x := L.f4 * lost) (by omega) (by omega), wrap_id (x := x.1 + feed) (by omega) (by omega), wrap_id (x := x.1 + feed - lost) (by omega) (by omega),
   wrap_id (x := x.2.1 + L.f4 * feed) (by omega) (by omega), wrap_id (x := x.2.2.1 + L.f4 * lost * L.f5 / 1000) (by omega) (by omega), wrap_id (x := x.2.2.2 + L.f4 * lost) (by omega) (by omega), wrap_id (x := x.2.2.2 + L.f4 * lost - L.f4 * lost * L.f5 / 1000) (by omega) (by omega)]
 have keyH : stepH L T x = (x.1 + feed - lost, x.2.1 + L.f4 * feed, x.2.2.1 + L.f4 * lost * L.f5 / 1000, x.2.2.2 + L.f4 * lost - L.f4 * lost * L.f5 / 1000) := by
  unfold stepH
  rw [hfeed, hI, hgV, hcf, hcm, wrap_id (x := L.f4 * feed) (by omega) (by omega), wrap_id (x := L.f4 * lost) (by omega) (by omega), wrap_id (x := -lost) (by omega) (by omega), wrap_id (x := -(L.f4 * lost * L.f5 / 1000)) (by omega) (by omega),
   sum3_id (a := x.1) (by omega) (by omega) (by omega) (by omega) (by omega) (by omega), sum2_id (a := x.2.1) (by omega) (by omega) (by omega) (by omega), sum2_id (a := x.2.2.1) (by omega) (by omega) (by omega) (by omega), sum3_id (a := x.2.2.2) (by omega) (by omega) (by omega) (by omega) (by omega) (by omega)]
  rfl
 refine ⟨keyH.trans key.symm, ?_, lost, l0, l1, gd0, gd1, hR, key⟩
 rw [key]
 refine ⟨?_, ?_, ?_, ?_, ?_, ?_, ?_, ?_⟩ <;> dsimp only <;> push_cast <;> omega
theorem playGo_yes (L : S39) (hL : LoopOk L) : ∀ (l3 : List S44) (l1 : List S37) (x : Heat4) (n : Nat), truthB L l3 l1 = true → (∀ F ∈ l1, 0 ≤ F.f0 ∧ F.f0 ≤ F.f1 ∧ F.f1 ≤ 1000) → n + l3.length ≤ 90 → HeatOk n x →
  playGo L l3 l1 x = some (l3.foldl (fun x T => stepR L T x) x) ∧ HeatOk (n + l3.length) (l3.foldl (fun x T => stepR L T x) x)
 | [], l1, x, n, h, hf, hn, hx => ⟨rfl, hx⟩
 | T :: ts, [], x, n, h, hf, hn, hx => by simp [truthB] at h
 | T :: ts, F :: fs, x, n, h, hf, hn, hx => by
  simp only [truthB, Bool.and_eq_true] at h
  obtain ⟨hA, hB, hC⟩ := h
  simp only [playGo, hA, hB, Bool.and_self, if_true, List.foldl_cons]
  have hF := hf F (by simp)
  have hA' := hA
  have hB' := hB
  unfold inB at hA' hB'
  simp only [Bool.and_eq_true, decide_eq_true_eq] at hA' hB'
  have k0 := hL.k0
  have k2 := hL.k2
  simp only [List.length_cons] at hn ⊢
  obtain ⟨h1, h2, _⟩ := step_eq hL (T := T) (by omega) (by omega) (by omega) (by omega) (n := n) (by omega) hx
  rw [h1]
  have := playGo_yes L hL ts fs (stepR L T x) (n + 1) hC (fun F' hF' => hf F' (by simp [hF'])) (by omega) h2
  rw [show n + (ts.length + 1) = n + 1 + ts.length from by omega]
  exact this
theorem rdT39_mem {l0 : List S39} {i : Int} (h0 : 0 ≤ i) (h1 : i < l0.length) : qah l0 i ∈ l0 := by
 have h2 : i.toNat < l0.length := by omega
 have e : qah l0 i = l0[i.toNat] := by simp [qah, h2]
 rw [e]
 exact List.getElem_mem _
theorem known_some : taliklaw04_known.f = some true := rfl
theorem isloop_eq (l0 : List S39) (l1 : List S37) (l2 : List (List Int)) (a1 : Int) : talikref04_IsLoop.f l0 l1 l2 a1 = some (inB a1 0 (wrap64 ((l0.length : Int) - 1))) := by
 unfold talikref04_IsLoop.f
 rw [rin_eq]
 rfl
theorem isloop_iff {l0 : List S39} {l1 : List S37} {l2 : List (List Int)} (h : NetOk l0 l1 l2) (a1 : Int) : inB a1 0 (wrap64 ((l0.length : Int) - 1)) = true ↔ 0 ≤ a1 ∧ a1 < l0.length := by
 have h0 := h.n0
 have h1 := h.n1
 rw [wrap_id (by omega) (by omega)]
 unfold inB
 simp only [Bool.and_eq_true, decide_eq_true_eq]
 omega
end Go.Proofs.Ytipphcjgdebecaa.PA
namespace Go.Proofs.Ytipphcjgdebecaa.PA
open Go.RowKit Go.Proofs.YtipphcjgdebecaaW.PrintWords Go.Proofs.YtipphcjgdebecaaW.PrintLast Go.Proofs.YtipphcjgdebecaaW.PrintMore
attribute [local go_sem] max2_int min2_int max_two min_two max_three min_three max_four min_four
def taliklaw04_sane.f (a0_0 : Int) (a0_1 : Int) (a0_2 : Int) (a0_3 : Int) (a0_4 : Int) (a0_5 : Int) (a0_6 : Int) (a0_7 : Int) (a0_8 : Int) (a0_9 : Int) (a0_10 : Int) (a0_11 : Int) (a1_0 : Int) (a1_1 : Int) (a1_2 : Int) (a1_3 : Int) (a2 : Int) (a3 : Int) : Option (Bool) := if 0 ≤ a1_0 ∧ a1_0 ≤ 1000000 ∧ a1_1 = wrap64 (wrap64 (a0_7 * a0_9) * a2) ∧ 0 ≤ a1_2 ∧ a1_2 ≤ 10000000000000 ∧ 0 ≤ a1_3 ∧ a1_3 ≤ 10000000000000 then some (wrap64 (wrap64 (a0_7 * a3) + a1_1) == wrap64 (wrap64 (wrap64 (a0_7 * a1_0) + a1_2) + a1_3)) else none
set_option maxHeartbeats 4000000 in
set_option maxRecDepth 100000 in
theorem taliklaw04_sane.calls (a0_0 : Int) (a0_1 : Int) (a0_2 : Int) (a0_3 : Int) (a0_4 : Int) (a0_5 : Int) (a0_6 : Int) (a0_7 : Int) (a0_8 : Int) (a0_9 : Int) (a0_10 : Int) (a0_11 : Int) (a1_0 : Int) (a1_1 : Int) (a1_2 : Int) (a1_3 : Int) (a2 : Int) (a3 : Int) (r : Bool) (w : World) (h : taliklaw04_sane.f a0_0 a0_1 a0_2 a0_3 a0_4 a0_5 a0_6 a0_7 a0_8 a0_9 a0_10 a0_11 a1_0 a1_1 a1_2 a1_3 a2 a3 = some r) :
  Calls Try.prog 23 #[.agg #[.int .i64 a0_0, .int .i64 a0_1, .int .i64 a0_2, .int .i64 a0_3, .int .i64 a0_4, .int .i64 a0_5, .int .i64 a0_6, .int .i64 a0_7, .int .i64 a0_8, .int .i64 a0_9, .int .i64 a0_10, .int .i64 a0_11], .agg #[.int .i64 a1_0, .int .i64 a1_1, .int .i64 a1_2, .int .i64 a1_3], .int .i64 a2, .int .i64 a3] w fun e w' => e = .returned (.bool r) ∧ Below w.heap.size w w' := by
 unfold taliklaw04_sane.f at h
 split at h
 case isFalse => cases h
 rename_i hc
 obtain ⟨q0, q1, q2, q3, q4, q5, q6⟩ := hc
 have hr := Option.some.inj h
 subst hr
 clear h
 have hu39 := Try.underlying39
 have hu31 := Try.underlying31
 have HB := qac.mk (Below.refl w.heap.size w)
 have n0 : decide (a1_0 < 0) = false := decide_eq_false (by omega)
 have n1 : decide (1000000 < a1_0) = false := decide_eq_false (by omega)
 have n2 : (a1_1 != wrap64 (wrap64 (a0_7 * a0_9) * a2)) = false := by simp [← q2]
 have n3 : decide (a1_2 < 0) = false := decide_eq_false (by omega)
 have n4 : decide (10000000000000 < a1_2) = false := decide_eq_false (by omega)
 have n5 : decide (a1_3 < 0) = false := decide_eq_false (by omega)
 have n6 : decide (10000000000000 < a1_3) = false := decide_eq_false (by omega)
 clear q0 q1 q2 q3 q4 q5 q6
 go_enter Try.func23, Try.ntmps23
 go_wp2_with (first | (with_reducible refine qax (N := 4) rfl ?_); refine qaw ?hg (N := 4) ?hd (cs := #[.int .i64 a0_0, .int .i64 a0_1, .int .i64 a0_2, .int .i64 a0_3, .int .i64 a0_4, .int .i64 a0_5, .int .i64 a0_6, .int .i64 a0_7, .int .i64 a0_8, .int .i64 a0_9, .int .i64 a0_10, .int .i64 a0_11]) (t := 39) ?hr ?_; (case hd => rfl); (case hg => rfl); (case hr => first | (go_simp; done) | (go_simp; rfl)); intro gb hg_gb w2 hbox hb; have BKgb := qac.mk hbox; have n_HB := qac.mk (qai HB.out hb); have GEgb : w.heap.size ≤ gb := (by rw [hg_gb]; exact HB.out.size); clear HB; have HB := n_HB; clear n_HB; have hfgb := qab BKgb.out; have hcgb_0 : w2.cell? ⟨gb, 0, none⟩ = some (.int .i64 a0_0) := (qaa BKgb.out 0).trans rfl; have hcgb_1 : w2.cell? ⟨gb, 1, none⟩ = some (.int .i64 a0_1) := (qaa BKgb.out 1).trans rfl; have hcgb_2 : w2.cell? ⟨gb, 2, none⟩ = some (.int .i64 a0_2) := (qaa BKgb.out 2).trans rfl; have hcgb_3 : w2.cell? ⟨gb, 3, none⟩ = some (.int .i64 a0_3) := (qaa BKgb.out 3).trans rfl; have hcgb_4 : w2.cell? ⟨gb, 4, none⟩ = some (.int .i64 a0_4) := (qaa BKgb.out 4).trans rfl; have hcgb_5 : w2.cell? ⟨gb, 5, none⟩ = some (.int .i64 a0_5) := (qaa BKgb.out 5).trans rfl; have hcgb_6 : w2.cell? ⟨gb, 6, none⟩ = some (.int .i64 a0_6) := (qaa BKgb.out 6).trans rfl; have hcgb_7 : w2.cell? ⟨gb, 7, none⟩ = some (.int .i64 a0_7) := (qaa BKgb.out 7).trans rfl; have hcgb_8 : w2.cell? ⟨gb, 8, none⟩ = some (.int .i64 a0_8) := (qaa BKgb.out 8).trans rfl; have hcgb_9 : w2.cell? ⟨gb, 9, none⟩ = some (.int .i64 a0_9) := (qaa BKgb.out 9).trans rfl; have hcgb_10 : w2.cell? ⟨gb, 10, none⟩ = some (.int .i64 a0_10) := (qaa BKgb.out 10).trans rfl; have hcgb_11 : w2.cell? ⟨gb, 11, none⟩ = some (.int .i64 a0_11) := (qaa BKgb.out 11).trans rfl; clear hbox hb hg_gb | (with_reducible refine qax (N := 5) rfl ?_); refine qaw ?hg (N := 5) ?hd (cs := #[.int .i64 a1_0, .int .i64 a1_1, .int .i64 a1_2, .int .i64 a1_3]) (t := 31) ?hr ?_; (case hd => rfl); (case hg => rfl); (case hr => first | (go_simp; done) | (go_simp; rfl)); intro gx hg_gx w3 hbox hb; have BKgx := qac.mk hbox; have n_BKgb := qac.mk (qam BKgb.out hb); clear BKgb; have BKgb := n_BKgb; clear n_BKgb; have n_HB := qac.mk (qai HB.out hb); have GEgx : w.heap.size ≤ gx := (by rw [hg_gx]; exact HB.out.size); clear HB; have HB := n_HB; clear n_HB; have hfgx := qab BKgx.out; have hcgx_0 : w3.cell? ⟨gx, 0, none⟩ = some (.int .i64 a1_0) := (qaa BKgx.out 0).trans rfl; have hcgx_1 : w3.cell? ⟨gx, 1, none⟩ = some (.int .i64 a1_1) := (qaa BKgx.out 1).trans rfl; have hcgx_2 : w3.cell? ⟨gx, 2, none⟩ = some (.int .i64 a1_2) := (qaa BKgx.out 2).trans rfl; have hcgx_3 : w3.cell? ⟨gx, 3, none⟩ = some (.int .i64 a1_3) := (qaa BKgx.out 3).trans rfl; clear hbox hb hg_gx; have hfgb := qab BKgb.out; have hcgb_0 : w3.cell? ⟨gb, 0, none⟩ = some (.int .i64 a0_0) := (qaa BKgb.out 0).trans rfl; have hcgb_1 : w3.cell? ⟨gb, 1, none⟩ = some (.int .i64 a0_1) := (qaa BKgb.out 1).trans rfl; have hcgb_2 : w3.cell? ⟨gb, 2, none⟩ = some (.int .i64 a0_2) := (qaa BKgb.out 2).trans rfl; have hcgb_3 : w3.cell? ⟨gb, 3, none⟩ = some (.int .i64 a0_3) := (qaa BKgb.out 3).trans rfl; have hcgb_4 : w3.cell? ⟨gb, 4, none⟩ = some (.int .i64 a0_4) := (qaa BKgb.out 4).trans rfl; have hcgb_5 : w3.cell? ⟨gb, 5, none⟩ = some (.int .i64 a0_5) := (qaa BKgb.out 5).trans rfl; have hcgb_6 : w3.cell? ⟨gb, 6, none⟩ = some (.int .i64 a0_6) := (qaa BKgb.out 6).trans rfl; have hcgb_7 : w3.cell? ⟨gb, 7, none⟩ = some (.int .i64 a0_7) := (qaa BKgb.out 7).trans rfl; have hcgb_8 : w3.cell? ⟨gb, 8, none⟩ = some (.int .i64 a0_8) := (qaa BKgb.out 8).trans rfl; have hcgb_9 : w3.cell? ⟨gb, 9, none⟩ = some (.int .i64 a0_9) := (qaa BKgb.out 9).trans rfl; have hcgb_10 : w3.cell? ⟨gb, 10, none⟩ = some (.int .i64 a0_10) := (qaa BKgb.out 10).trans rfl; have hcgb_11 : w3.cell? ⟨gb, 11, none⟩ = some (.int .i64 a0_11) := (qaa BKgb.out 11).trans rfl)
 go_ret
 exact ⟨rfl, HB.out⟩
end Go.Proofs.Ytipphcjgdebecaa.PA
