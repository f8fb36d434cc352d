/- What functions of the program answer. No condition. -/
import Derived.RangeFuncNested
import Derived.RangeFuncBound
import Derived.RangeFuncCalls
import Derived.RangeFuncLeaves
import Derived.RangeFuncBox
import Derived.Shelf.Abstract
import Derived.Shelf.RegionOpen
import Derived.OwnWalkIn
import Derived.TacticsInMore
import Derived.LoopNIn
import Derived.LoopIn
import Derived.Recover
import Derived.Defers
import Derived.WalkLawsBesides
import Derived.WalkSmall
import Derived.Test.YtafkanmioinbiaaFpB
import Derived.Test.YtafkanmioinbiaaSC
import Derived.Test.YtafkanmioinbiaaSD
import Derived.Test.YtafkanmioinbiaaSE
import Derived.Test.YtafkanmioinbiaaSG
import Derived.Test.YtafkanmioinbiaaSH
import Derived.Test.YtafkanmioinbiaaSQ
import Derived.Test.YtafkanmioinbiaaFpA
import Derived.Test.YtafkanmioinbiaaSF
set_option linter.all false
set_option maxRecDepth 100000
set_option maxHeartbeats 8000000
namespace Go.Proofs.Ytafkanmioinbiaa.SA
open Go.RowKit Go.Shelf Go.Proofs.YtafkanmioinbiaaW.PrintWords Go.Proofs.YtafkanmioinbiaaW.PrintLast Go.Proofs.YtafkanmioinbiaaW.PrintMore
attribute [local go_sem] max2_int min2_int max_two min_two qay qaz max_four min_four
theorem openL_mem (d : Int) (es : List S44) (ths : List Int) (y i : Nat) : i ∈ openL d es (rd ths y) es.length ↔ opE es (fun i => dykeV d (i : Int)) ths y i := by
 unfold openL opE openB
 simp only [List.mem_filter, List.mem_range, Bool.and_eq_true, Bool.not_eq_true', decide_eq_true_eq, ge_iff_le]
section
variable {l1 : List S44} {ws : List Int} {dk : Nat → Bool} {ths : List Int} {N P : Nat} {o : List Int}
theorem seed_at (y : Int) (ws o : List Int) : ∀ n, n ≤ o.length → (∀ p : Int, 0 ≤ p → p < o.length → rd (seedTo y ws o n).1 p = if p < n ∧ (rd o p < y ∨ ws.contains p = true) then min (rd o p) y else rd o p) ∧
  ∀ x, x ∈ (seedTo y ws o n).2 ↔ 0 ≤ x ∧ x < n ∧ (rd o x < y ∨ ws.contains x = true)
 | 0, _ => ⟨fun p h0 _ => by rw [if_neg (by omega)]; rfl, fun x => by simp [seedTo]; omega⟩
 | n + 1, hn => by
  obtain ⟨h1, h2⟩ := seed_at y ws o n (by omega)
  rw [seedTo_succ]
  have hl : n < (seedTo y ws o n).1.length := by rw [seedTo_length]; omega
  have en : (seedTo y ws o n).1.getD n 0 = rd o n := by
   have := h1 (n : Int) (by omega) (by omega)
   rw [if_neg (by omega)] at this
   rw [← this]
   simp [rd]
  unfold seedS
  rw [en]
  by_cases c : rd o n < y ∨ ws.contains (n : Int) = true
  ·
   rw [if_pos c]
   refine ⟨fun p h0 hp => ?_, fun x => ?_⟩
   ·
    change rd ((seedTo y ws o n).1.set n _) p = _
    rw [rd_set _ _ _ _ h0 hl]
    by_cases e : p = n
    ·
     rw [if_pos e, e, if_pos ⟨by omega, c⟩]
    ·
     rw [if_neg e, h1 p h0 hp]
     by_cases c2 : p < n ∧ (rd o p < y ∨ ws.contains p = true)
     ·
      rw [if_pos c2, if_pos ⟨by omega, c2.2⟩]
     ·
      rw [if_neg c2, if_neg (fun h => c2 ⟨by omega, h.2⟩)]
   ·
    change x ∈ (seedTo y ws o n).2 ++ [(n : Int)] ↔ _
    rw [List.mem_append, h2, List.mem_singleton]
    constructor
    ·
     rintro (⟨a, b, c3⟩ | rfl)
     ·
      exact ⟨a, by omega, c3⟩
     ·
      exact ⟨by omega, by omega, c⟩
    ·
     rintro ⟨a, b, c3⟩
     by_cases e : x = n
     ·
      exact .inr e
     ·
      exact .inl ⟨a, by omega, c3⟩
  ·
   rw [if_neg c]
   refine ⟨fun p h0 hp => ?_, fun x => ?_⟩
   ·
    rw [h1 p h0 hp]
    by_cases c2 : p < n ∧ (rd o p < y ∨ ws.contains p = true)
    ·
     rw [if_pos c2, if_pos ⟨by omega, c2.2⟩]
    ·
     rw [if_neg c2, if_neg (fun h => ?_)]
     by_cases e : p = n
     ·
      exact c (e ▸ h.2)
     ·
      exact c2 ⟨by omega, h.2⟩
   ·
    rw [h2]
    constructor
    ·
     exact fun ⟨a, b, c3⟩ => ⟨a, by omega, c3⟩
    ·
     rintro ⟨a, b, c3⟩
     refine ⟨a, ?_, c3⟩
     by_cases e : x = n
     ·
      exact absurd (e ▸ c3) c
     ·
      omega
theorem relV_spec (hE : InP l1 P) {y : Nat} (p : Int) (hp : 0 ≤ p ∧ p < P) (hf : Fl l1 ws dk ths y p) : ∀ (ks : List Nat) (o' q : List Int), (∀ k ∈ ks, opE l1 dk ths y k) → Mid l1 ws dk ths P y o o' → (∀ x ∈ q, 0 ≤ x ∧ x < P ∧ rd o' x ≤ y) →
  Mid l1 ws dk ths P y o (relV l1 y p ks (o', q)).1 ∧ (∀ x ∈ (relV l1 y p ks (o', q)).2, 0 ≤ x ∧ x < P ∧ rd (relV l1 y p ks (o', q)).1 x ≤ y) ∧ (∀ x : Int, 0 ≤ x → rd o' x ≤ y → rd (relV l1 y p ks (o', q)).1 x ≤ y) ∧
  (∀ x ∈ q, x ∈ (relV l1 y p ks (o', q)).2) ∧ (∀ x : Int, 0 ≤ x → rd (relV l1 y p ks (o', q)).1 x ≤ y → rd o' x ≤ y ∨ x ∈ (relV l1 y p ks (o', q)).2) ∧ ∀ k ∈ ks, (qar l1 k).f0 = p → rd (relV l1 y p ks (o', q)).1 (qar l1 k).f1 ≤ y
 | [], o', q, _, hm, hq => ⟨hm, hq, fun _ _ h => h, fun _ h => h, fun _ _ h => .inl h, fun k hk => absurd hk (by simp)⟩
 | k :: ks, o', q, ho, hm, hq => by
  have hok := ho k (by simp)
  have hEk := (hE k hok.1).2
  have e : relV l1 y p (k :: ks) (o', q) = relV l1 y p ks (relS l1 y p (o', q) k) := rfl
  rw [e]
  have hl : (qar l1 k).f1.toNat < o'.length := by have := hm.len; omega
  by_cases c : (qar l1 k).f0 = p ∧ rd o' (qar l1 k).f1 > y
  ·
   have es : relS l1 y p (o', q) k = (o'.set (qar l1 k).f1.toNat y, q ++ [(qar l1 k).f1]) := by unfold relS; rw [if_pos c]
   rw [es]
   have hset : ∀ x : Int, 0 ≤ x → rd (o'.set (qar l1 k).f1.toNat y) x = if x = (qar l1 k).f1 then (y : Int) else rd o' x := fun x hx => by
    rw [rd_set _ _ _ _ hx hl, show (((qar l1 k).f1.toNat : Nat) : Int) = (qar l1 k).f1 from by omega]
   have hm2 := hm.put _ hEk c.2 (.edge hok (by rw [c.1]; exact hf))
   have hle : ∀ x : Int, 0 ≤ x → rd o' x ≤ y → rd (o'.set (qar l1 k).f1.toNat y) x ≤ y := fun x hx h => by
    rw [hset x hx]
    split
    ·
     exact Int.le_refl _
    ·
     exact h
   have h1 : rd (o'.set (qar l1 k).f1.toNat y) (qar l1 k).f1 ≤ y := by rw [hset _ hEk.1, if_pos rfl]; exact Int.le_refl _
   obtain ⟨g1, g2, g3, g4, g5, g6⟩ := relV_spec hE p hp hf ks _ (q ++ [(qar l1 k).f1]) (fun j hj => ho j (by simp [hj])) hm2 (fun x hx => by
    rcases List.mem_append.1 hx with hx | hx
    ·
     exact ⟨(hq x hx).1, (hq x hx).2.1, hle x (hq x hx).1 (hq x hx).2.2⟩
    ·
     rw [List.mem_singleton.1 hx]
     exact ⟨hEk.1, hEk.2, h1⟩)
   refine ⟨g1, g2, fun x hx h => g3 x hx (hle x hx h), fun x hx => g4 x (by simp [hx]), fun x hx h => ?_, fun j hj hj0 => ?_⟩
   ·
    rcases g5 x hx h with h | h
    ·
     rw [hset x hx] at h
     by_cases ex : x = (qar l1 k).f1
     ·
      exact .inr (g4 x (by simp [ex]))
     ·
      rw [if_neg ex] at h
      exact .inl h
    ·
     exact .inr h
   ·
    rcases List.mem_cons.1 hj with rfl | hj
    ·
     exact g3 _ hEk.1 h1
    ·
     exact g6 j hj hj0
  ·
   have es : relS l1 y p (o', q) k = (o', q) := by unfold relS; rw [if_neg c]
   rw [es]
   obtain ⟨g1, g2, g3, g4, g5, g6⟩ := relV_spec hE p hp hf ks o' q (fun j hj => ho j (by simp [hj])) hm hq
   refine ⟨g1, g2, g3, g4, g5, fun j hj hj0 => ?_⟩
   rcases List.mem_cons.1 hj with rfl | hj
   ·
    exact g3 _ hEk.1 (by
     have : ¬ rd o' (qar l1 j).f1 > y := fun h => c ⟨hj0, h⟩
     omega)
   ·
    exact g6 j hj hj0
theorem bfs_spec (hE : InP l1 P) {y : Nat} {d : Int} : ∀ (n : Nat) (o' q : List Int), cntN y o' + q.length < n → Mid l1 ws (fun i => dykeV d (i : Int)) ths P y o o' → (∀ x ∈ q, 0 ≤ x ∧ x < P ∧ rd o' x ≤ y) →
  (∀ i, opE l1 (fun i => dykeV d (i : Int)) ths y i → rd o' (qar l1 i).f0 ≤ y → rd o' (qar l1 i).f1 ≤ y ∨ (qar l1 i).f0 ∈ q) →
  Mid l1 ws (fun i => dykeV d (i : Int)) ths P y o (bfsV l1 (openL d l1 (rd ths y) l1.length) y n o' q) ∧ (∀ x : Int, 0 ≤ x → rd o' x ≤ y → rd (bfsV l1 (openL d l1 (rd ths y) l1.length) y n o' q) x ≤ y) ∧
  ∀ i, opE l1 (fun i => dykeV d (i : Int)) ths y i → rd (bfsV l1 (openL d l1 (rd ths y) l1.length) y n o' q) (qar l1 i).f0 ≤ y → rd (bfsV l1 (openL d l1 (rd ths y) l1.length) y n o' q) (qar l1 i).f1 ≤ y
 | 0, _, _, h, _, _, _ => by omega
 | n + 1, o', [], _, hm, _, hc => by
  refine ⟨hm, fun _ _ h => h, fun i hi h => ?_⟩
  rcases hc i hi h with h | h
  ·
   exact h
  ·
   simp at h
 | n + 1, o', p :: q, hn, hm, hq, hc => by
  have hp := hq p (by simp)
  obtain ⟨g1, g2, g3, g4, g5, g6⟩ := relV_spec hE p ⟨hp.1, hp.2.1⟩ (hm.snd p hp.1 hp.2.1 hp.2.2) (openL d l1 (rd ths y) l1.length) o' q (fun k hk => (openL_mem d l1 ths y k).1 hk) hm (fun x hx => hq x (by simp [hx]))
  have hms := relV_meas l1 (y : Int) p (openL d l1 (rd ths y) l1.length) (o', q) (fun k hk => by
   have := hE k ((openL_mem d l1 ths y k).1 hk).1
   have hl := hm.len
   exact ⟨this.2.1, by change _ < (o'.length : Int); omega⟩)
  have hlen : (p :: q).length = q.length + 1 := rfl
  have hms' : cntN y (relV l1 y p (openL d l1 (rd ths y) l1.length) (o', q)).1 + (relV l1 y p (openL d l1 (rd ths y) l1.length) (o', q)).2.length = cntN y o' + q.length := hms
  obtain ⟨f1, f2, f3⟩ := bfs_spec hE n _ _ (by omega) g1 g2 (fun i hi h => by
   have hEi := hE i hi.1
   rcases g5 _ hEi.1.1 h with h | h
   ·
    rcases hc i hi h with h | h
    ·
     exact .inl (g3 _ hEi.2.1 h)
    ·
     rcases List.mem_cons.1 h with h | h
     ·
      exact .inl (g6 i ((openL_mem d l1 ths y i).2 hi) h)
     ·
      exact .inr (g4 _ h)
   ·
    exact .inr h)
  exact ⟨f1, fun x hx h => f2 x hx (g3 x hx h), f3⟩
theorem foulTo_isF (hE : InP l1 P) {d : Int} (hw : ∀ p ∈ ws, 0 ≤ p ∧ p < P) : ∀ k, k ≤ ths.length → IsF l1 ws (fun i => dykeV d (i : Int)) ths ths.length P k k (foulTo P l1 ws d ths k)
 | 0, _ => by
  refine ⟨by simp [foulTo], fun p h0 h1 => ?_, fun p _ _ y hy => by omega⟩
  have e : rd (foulTo P l1 ws d ths 0) p = ths.length := by
   have hl : p.toNat < P := by omega
   simp [foulTo, rd, hl]
  rw [e]
  omega
 | k + 1, hk => by
  have h := foulTo_isF hE (d := d) hw k (by omega)
  obtain ⟨o, ho⟩ : ∃ o, o = foulTo P l1 ws d ths k := ⟨_, rfl⟩
  rw [← ho] at h
  have ey : foulTo P l1 ws d ths (k + 1) = yearV l1 ws d (rd ths k) k o := by rw [ho]; rfl
  rw [ey]
  have hol := h.len
  obtain ⟨s1, s2⟩ := seed_at (k : Int) ws o o.length (Nat.le_refl _)
  have hold : ∀ p : Int, 0 ≤ p → p < P → rd o p ≤ k → Fl l1 ws (fun i => dykeV d (i : Int)) ths k p := fun p h0 h1 hle => by
   have hr1 := (h.rng p h0 h1).1
   rcases (h.rng p h0 h1).2 with h2 | h2
   ·
    obtain ⟨m, rfl⟩ : ∃ m, k = m + 1 := ⟨k - 1, by omega⟩
    exact .later ((h.iff p h0 h1 m (by omega)).1 (by omega))
   ·
    omega
  have hm : Mid l1 ws (fun i => dykeV d (i : Int)) ths P k o (seedTo (k : Int) ws o o.length).1 := by
   refine ⟨by rw [seedTo_length]; exact hol, fun p h0 h1 => ?_, fun p h0 h1 hle => ?_⟩
   ·
    rw [s1 p h0 (by omega)]
    have hr := (h.rng p h0 h1).2
    split
    ·
     omega
    ·
     exact .inl rfl
   ·
    rw [s1 p h0 (by omega)] at hle
    by_cases c : p < (o.length : Int) ∧ (rd o p < (k : Int) ∨ ws.contains p = true)
    ·
     rcases c.2 with c2 | c2
     ·
      exact hold p h0 h1 (by omega)
     ·
      exact .waste (by simpa using c2)
    ·
     rw [if_neg c] at hle
     exact hold p h0 h1 hle
  have hq : ∀ x ∈ (seedTo (k : Int) ws o o.length).2, 0 ≤ x ∧ x < P ∧ rd (seedTo (k : Int) ws o o.length).1 x ≤ k := fun x hx => by
   obtain ⟨a, b, c⟩ := (s2 x).1 hx
   refine ⟨a, by omega, ?_⟩
   rw [s1 x a (by omega), if_pos ⟨b, c⟩]
   omega
  obtain ⟨f1, f2, f3⟩ := bfs_spec hE (y := k) (d := d) _ _ _ (Nat.lt_succ_self (cntN (k : Int) (seedTo (k : Int) ws o o.length).1 + (seedTo (k : Int) ws o o.length).2.length)) hm hq (fun i hi hle => by
   have hEi := hE i hi.1
   right
   refine (s2 _).2 ⟨hEi.1.1, by omega, ?_⟩
   rw [s1 _ hEi.1.1 (by omega)] at hle
   by_cases c : (qar l1 i).f0 < (o.length : Int) ∧ (rd o (qar l1 i).f0 < (k : Int) ∨ ws.contains (qar l1 i).f0 = true)
   ·
    exact c.2
   ·
    rw [if_neg c] at hle
    left
    have := (h.rng _ hEi.1.1 hEi.1.2).2
    omega)
  refine h.step (by omega) (by omega) hE hw f1.len f1.chg f1.snd (fun p hp => f2 p (hw p hp).1 ?_) f3
  have hpp := hw p hp
  rw [s1 p hpp.1 (by omega), if_pos ⟨by omega, .inr (by simpa using hp)⟩]
  omega
theorem foulV_isF (hE : InP l1 P) (d : Int) (hw : ∀ p ∈ ws, 0 ≤ p ∧ p < P) : IsF l1 ws (fun i => dykeV d (i : Int)) ths ths.length P ths.length ths.length (foulV P l1 ws d ths) := foulTo_isF hE hw ths.length (Nat.le_refl _)
end
end Go.Proofs.Ytafkanmioinbiaa.SA
namespace Go.Proofs.Ytafkanmioinbiaa.SA
open Go.RowKit Go.Proofs.YtafkanmioinbiaaW.PrintWords Go.Proofs.YtafkanmioinbiaaW.PrintLast Go.Proofs.YtafkanmioinbiaaW.PrintMore
attribute [local go_sem] max2_int min2_int max_two min_two qay qaz max_four min_four
end Go.Proofs.Ytafkanmioinbiaa.SA
namespace Go.Proofs.Ytafkanmioinbiaa.SA
open Go.RowKit Go.Shelf Go.Proofs.YtafkanmioinbiaaW.PrintWords Go.Proofs.YtafkanmioinbiaaW.PrintLast Go.Proofs.YtafkanmioinbiaaW.PrintMore
attribute [local go_sem] max2_int min2_int max_two min_two qay qaz max_four min_four
def shortB (l1 : List S44) (l2 l3 : List Int) (l4 : List S41) (l5 : List S95) : Bool := decide (l1.length ≤ 16) && (decide (l2.length ≤ 15) && (decide (l3.length ≤ 15) && (decide (l4.length ≤ 15) && decide (l5.length ≤ 10))))
structure Sh (l1 : List S44) (l2 l3 : List Int) (l4 : List S41) (l5 : List S95) : Prop where
 n1 : l1.length ≤ 16
 n2 : l2.length ≤ 15
 n3 : l3.length ≤ 15
 n4 : l4.length ≤ 15
 n5 : l5.length ≤ 10
theorem short_of {l1 : List S44} {l2 l3 : List Int} {l4 : List S41} {l5 : List S95} (h : shortB l1 l2 l3 l4 l5 = true) : Sh l1 l2 l3 l4 l5 := by
 unfold shortB at h
 simp only [Bool.and_eq_true, decide_eq_true_eq] at h
 obtain ⟨a, b, c, d, e⟩ := h
 exact ⟨a, b, c, d, e⟩
theorem known_some : taliklaw07_known.f = some true := rfl
section
variable (p : Int) (l1 : List S44) (l2 l3 : List Int) (l4 : List S41) (l5 : List S95)
theorem short_eq : taliklaw07_short.f p l1 l2 l3 l4 l5 = some (shortB l1 l2 l3 l4 l5) := by
 unfold taliklaw07_short.f shortB
 by_cases h1 : l1.length ≤ 16
 ·
  rw [if_pos (by omega), decide_eq_true h1]
  by_cases h2 : l2.length ≤ 15
  ·
   rw [if_pos (by omega), decide_eq_true h2]
   by_cases h3 : l3.length ≤ 15
   ·
    rw [if_pos (by omega), decide_eq_true h3]
    by_cases h4 : l4.length ≤ 15
    ·
     rw [if_pos (by omega), decide_eq_true h4, show decide ((l5.length : Int) ≤ 10) = decide (l5.length ≤ 10) from decide_eq_decide.2 (by omega)]
     rfl
    ·
     rw [if_neg (by omega), decide_eq_false h4]
     rfl
   ·
    rw [if_neg (by omega), decide_eq_false h3]
    rfl
  ·
   rw [if_neg (by omega), decide_eq_false h2]
   rfl
 ·
  rw [if_neg (by omega), decide_eq_false h1]
  rfl
theorem wsucc (i : Nat) (h : i < 1000000) : wrap64 ((i : Int) + 1) = ((i + 1 : Nat) : Int) := by unfold wrap64; omega
theorem valid_cost (hv : validB p l1 l2 l3 l4 l5 = true) (i : Nat) (hi : i < l1.length) : -1 ≤ (qar l1 i).f3 ∧ (qar l1 i).f3 ≤ 1000000 := by
 unfold validB at hv
 have h1 := (Bool.and_eq_true_iff.1 hv).1
 rw [List.all_eq_true] at h1
 have h2 := h1 _ (List.getElem_mem hi)
 unfold edgeB inB at h2
 simp only [Bool.and_eq_true, decide_eq_true_eq] at h2
 have e : qar l1 (i : Int) = l1[i] := by simp [qar, hi]
 rw [e]
 omega
theorem dam_given (hv : validB p l1 l2 l3 l4 l5 = true) (l : List Int) : damB l1 l = givenB p l1 l2 l3 l4 l5 l := by
 have n1 := (valid_facts hv).n1
 unfold givenB
 rw [hv, Bool.true_and]
 have hw : wrap64 ((l1.length : Int) - 1) = (l1.length : Int) - 1 := by unfold wrap64; omega
 have hrd : ∀ k : Nat, ∀ hk : k < l.length, l.getD k 0 = l[k] := fun k hk => by simp [hk]
 cases hd : damB l1 l with
 | true =>
  unfold damB at hd
  rw [List.all_eq_true] at hd
  have hd' : ∀ k, k < l.length → damAt l1 l k = true := fun k hk => hd k (List.mem_range.2 hk)
  have h1 : incB l (l1.length : Int) = true := by
   unfold incB
   refine range_all_true (fun k hk => ?_)
   have := hd' k hk
   unfold damAt at this
   simp only [Bool.and_eq_true] at this
   unfold incAt
   rw [hw, this.1, this.2.1]
   rfl
  have h2 : (l.all fun n => !decide ((qar l1 n).f3 = -1)) = true := by
   rw [List.all_eq_true]
   intro x hx
   obtain ⟨k, hk, rfl⟩ := List.mem_iff_getElem.1 hx
   have := hd' k hk
   unfold damAt at this
   rw [hrd k hk] at this
   simp only [Bool.and_eq_true, decide_eq_true_eq] at this
   have h3 := this.2.2
   simp
   omega
  rw [h1, h2]
  rfl
 | false =>
  unfold damB at hd
  rw [List.all_eq_false] at hd
  obtain ⟨k, hk, hk2⟩ := hd
  have hk := List.mem_range.1 hk
  symm
  rw [Bool.and_eq_false_iff]
  by_cases c : incAt l (l1.length : Int) k = true
  ·
   right
   rw [List.all_eq_false]
   refine ⟨l[k], List.getElem_mem hk, ?_⟩
   unfold incAt at c
   rw [hw] at c
   simp only [Bool.and_eq_true] at c
   unfold damAt at hk2
   rw [c.1, c.2, Bool.true_and, Bool.true_and, hrd k hk] at hk2
   have hi := c.1
   rw [hrd k hk] at hi
   unfold inB at hi
   simp only [Bool.and_eq_true, decide_eq_true_eq] at hi
   obtain ⟨m, hm⟩ := Int.eq_ofNat_of_zero_le hi.1
   have hc := valid_cost p l1 l2 l3 l4 l5 hv m (by omega)
   rw [hm] at hk2 ⊢
   simp only [decide_eq_true_eq, Bool.not_eq_true', decide_eq_false_iff_not, Classical.not_not] at hk2 ⊢
   omega
  ·
   left
   exact range_all_false k hk (by simpa using c)
theorem asked_eq (l : List Int) : taliklaw07_asked.f p l1 l2 l3 l4 l5 l = some (givenB p l1 l2 l3 l4 l5 l) := by
 unfold taliklaw07_asked.f
 rw [show talikref07_Map.f p l1 l2 l3 l4 l5 = some (validB p l1 l2 l3 l4 l5) from rfl, Option.bind_some]
 cases hv : validB p l1 l2 l3 l4 l5 with
 | true =>
  rw [if_pos rfl, show talikref07_Dam.f p l1 l2 l3 l4 l5 l = some (damB l1 l) from rfl, Option.bind_some, dam_given p l1 l2 l3 l4 l5 hv]
 | false =>
  rw [if_neg (by simp)]
  unfold givenB
  rw [hv]
  rfl
theorem thaws_go (ths : List Int) (h15 : ths.length ≤ 15) : ∀ (m i k : Nat), i + m = ths.length → 2 * m + 2 ≤ k → i ≤ l4.length → (∀ j : Nat, j < i → inB (rd ths j) (rd_T41 l4 j).f0 (rd_T41 l4 j).f1 = true) → talikref07_Thaws.l0 k ths (i : Int) p l1 l2 l3 l4 l5 = some (playOk l4 ths) := by
 intro m
 induction m with
 | zero =>
  intro i k hi hk hil hp
  obtain ⟨k, rfl⟩ : ∃ m, k = m + 2 := ⟨k - 2, by omega⟩
  rw [talikref07_Thaws.l0]
  rw [if_neg (by omega), talikref07_Thaws.j1]
  rw [if_neg (by decide)]
  by_cases e : ths.length = l4.length
  ·
   rw [playOk_ok e (fun j hj => hp j (by omega))]
   simp [e]
  ·
   unfold playOk
   rw [decide_eq_false e]
   simp
   omega
 | succ m ih =>
  intro i k hi hk hil hp
  obtain ⟨k, rfl⟩ : ∃ m, k = m + 2 := ⟨k - 2, by omega⟩
  rw [talikref07_Thaws.l0]
  rw [if_pos (by omega), talikref07_Thaws.j1]
  by_cases h4 : i < l4.length
  ·
   rw [if_pos (decide_eq_true (by omega)), if_pos (by omega), if_pos (by omega), if_pos (by omega), ref_in_eq, Option.bind_some]
   cases hc : inB (rd ths (i : Int)) (rd_T41 l4 (i : Int)).f0 (rd_T41 l4 (i : Int)).f1 with
   | true =>
    rw [if_pos rfl, wsucc i (by omega)]
    refine ih (i + 1) k (by omega) (by omega) (by omega) (fun j hj => ?_)
    rcases Nat.lt_or_ge j i with h | h
    ·
     exact hp j h
    ·
     obtain rfl : j = i := by omega
     exact hc
   | false =>
    rw [if_neg (by decide), playOk_bad i (by omega) hc]
  ·
   rw [if_neg (by simp; omega)]
   unfold playOk
   rw [decide_eq_false (show ¬ ths.length = l4.length by omega)]
   simp
   omega
theorem thaws_eq (ths : List Int) (h15 : ths.length ≤ 15) (k : Nat) (hk : 40 ≤ k) : talikref07_Thaws.f k p l1 l2 l3 l4 l5 ths = some (playOk l4 ths) :=
 thaws_go p l1 l2 l3 l4 l5 ths h15 ths.length 0 k (by omega) (by omega) (by omega) (fun j hj => by omega)
theorem same_go (a : List Int) (h15 : a.length ≤ 1000) : ∀ (m i k : Nat), i + m = a.length → m + 1 ≤ k → talikref07_Same.l0 k a a (i : Int) = some true := by
 intro m
 induction m with
 | zero =>
  intro i k hi hk
  obtain ⟨k, rfl⟩ : ∃ m, k = m + 1 := ⟨k - 1, by omega⟩
  rw [talikref07_Same.l0]
  rw [if_neg (by omega)]
 | succ m ih =>
  intro i k hi hk
  obtain ⟨k, rfl⟩ : ∃ m, k = m + 1 := ⟨k - 1, by omega⟩
  rw [talikref07_Same.l0]
  rw [if_pos (by omega), if_pos (by omega), if_pos (by omega), if_pos rfl, wsucc i (by omega)]
  exact ih (i + 1) k (by omega) (by omega)
theorem same_eq (a : List Int) (h15 : a.length ≤ 1000) (k : Nat) (hk : a.length + 1 ≤ k) : talikref07_Same.f k a a = some true := by
 unfold talikref07_Same.f
 rw [if_pos rfl]
 exact same_go a h15 a.length 0 k (by omega) (by omega)
end
theorem Fl.congr {l1 : List S44} {ws : List Int} {dk dk' : Nat → Bool} {ths : List Int} (h : ∀ i, i < l1.length → dk i = dk' i) {y : Nat} {x : Int} (hf : Fl l1 ws dk ths y x) : Fl l1 ws dk' ths y x := by
 induction hf with
 | waste hm => exact .waste hm
 | later _ ih => exact .later ih
 | edge ho _ ih => exact .edge ⟨ho.1, by rw [← h _ ho.1]; exact ho.2.1, ho.2.2⟩ ih
theorem IsF.congr {l1 : List S44} {ws : List Int} {dk dk' : Nat → Bool} {ths : List Int} {N P b k : Nat} {o : List Int} (h : ∀ i, i < l1.length → dk i = dk' i) (hf : IsF l1 ws dk ths N P b k o) : IsF l1 ws dk' ths N P b k o :=
 ⟨hf.len, hf.rng, fun p h0 h1 y hy => (hf.iff p h0 h1 y hy).trans ⟨fun g => g.congr h, fun g => g.congr (fun i hi => (h i hi).symm)⟩⟩
section
variable {p : Int} {l1 : List S44} {l2 l3 : List Int} {l4 : List S41} {l5 : List S95} {l : List Int}
theorem valid_InP (hv : validB p l1 l2 l3 l4 l5 = true) : InP l1 p.toNat := fun i hi => by
 have h := (valid_facts hv).e i hi
 have := (valid_facts hv).pp
 omega
theorem valid_ws (hv : validB p l1 l2 l3 l4 l5 = true) : ∀ x ∈ l2, 0 ≤ x ∧ x < p.toNat := fun x hx => by
 have h := (valid_facts hv).w2 x hx
 omega
theorem given_inc (hg : givenB p l1 l2 l3 l4 l5 l = true) : incB l (l1.length : Int) = true := by
 unfold givenB at hg
 simp only [Bool.and_eq_true] at hg
 exact hg.2.1
theorem given_dyke (hg : givenB p l1 l2 l3 l4 l5 l = true) (i : Nat) (hi : i < l1.length) : dykeV (maskV l : Int) (i : Int) = l.contains (i : Int) := by
 have n1 := (valid_facts (given_valid hg)).n1
 have hm := inc_mem (given_inc hg) (.inr (by omega)) (by omega)
 have hlt : maskV l < 2 ^ 12 := mask_lt l 12 (fun x hx => ⟨(hm x hx).1, by have := (hm x hx).2; omega⟩)
 rw [dyke_bit _ (by omega) i (by omega), mask_bit l (fun x hx => (hm x hx).1)]
 cases h : l.contains (i : Int) with
 | true =>
  rw [List.any_eq_true]
  exact ⟨i, by simpa using h, by simp⟩
 | false =>
  rw [List.any_eq_false]
  intro x hx hxi
  have : x = (i : Int) := by simpa using hxi
  subst this
  simp [hx] at h
theorem foul_isF (hg : givenB p l1 l2 l3 l4 l5 l = true) (ths : List Int) : IsF l1 l2 (fun i => l.contains (i : Int)) ths ths.length p.toNat ths.length ths.length (foulV p.toNat l1 l2 (maskV l) ths) :=
 (foulV_isF (valid_InP (given_valid hg)) _ (valid_ws (given_valid hg))).congr (given_dyke hg)
theorem foul_eq (hg : givenB p l1 l2 l3 l4 l5 l = true) (ths : List Int) (hN : 1 ≤ ths.length) : foulV p.toNat l1 l2 (maskV l) ths = rfV p.toNat l1 l2 l ths :=
 (foul_isF hg ths).uniq (rfV_isF (valid_InP (given_valid hg)) (valid_ws (given_valid hg)) hN)
end
end Go.Proofs.Ytafkanmioinbiaa.SA
namespace Go.Proofs.Ytafkanmioinbiaa.SA
open Go.RowKit Go.Proofs.YtafkanmioinbiaaW.PrintWords Go.Proofs.YtafkanmioinbiaaW.PrintLast Go.Proofs.YtafkanmioinbiaaW.PrintMore
attribute [local go_sem] max2_int min2_int max_two min_two qay qaz max_four min_four
attribute [local go_sem] Oper.semAt_some
def talikref07_Foul.f (a0_0 : Int) (l0_1 : List (S44)) (l0_2 : List Int) (l0_3 : List Int) (l0_4 : List (S41)) (l0_5 : List (S95)) (l1 : List Int) (l2 : List Int) : Option (List Int) := if validB a0_0 l0_1 l0_2 l0_3 l0_4 l0_5 = true then some (rfV a0_0.toNat l0_1 l0_2 l1 l2) else none
theorem talikref07_Foul.calls (a0_0 : Int) (A0_1 : Option Addr) (c0_1 : Nat) (l0_1 : List (S44)) (A0_2 : Option Addr) (c0_2 : Nat) (l0_2 : List Int) (A0_3 : Option Addr) (c0_3 : Nat) (l0_3 : List Int) (A0_4 : Option Addr) (c0_4 : Nat) (l0_4 : List (S41)) (A0_5 : Option Addr) (c0_5 : Nat) (l0_5 : List (S95)) (A1 : Option Addr) (c1 : Nat) (l1 : List Int) (A2 : Option Addr) (c2 : Nat) (l2 : List Int) (r : List Int) (w : World) (hr0_1 : Kd.C k44 w A0_1 l0_1.length l0_1) (hc0_1 : l0_1.length ≤ c0_1) (hr0_2 : Kd.C (Kd.int .i64) w A0_2 l0_2.length l0_2) (hc0_2 : l0_2.length ≤ c0_2) (hr0_3 : Kd.C (Kd.int .i64) w A0_3 l0_3.length l0_3) (hc0_3 : l0_3.length ≤ c0_3) (hr0_4 : Kd.C k41 w A0_4 l0_4.length l0_4) (hc0_4 : l0_4.length ≤ c0_4) (hr0_5 : Kd.C k95 w A0_5 l0_5.length l0_5) (hc0_5 : l0_5.length ≤ c0_5) (hr1 : Kd.C (Kd.int .i64) w A1 l1.length l1) (hc1 : l1.length ≤ c1) (hr2 : Kd.C (Kd.int .i64) w A2 l2.length l2) (hc2 : l2.length ≤ c2) (h : talikref07_Foul.f a0_0 l0_1 l0_2 l0_3 l0_4 l0_5 l1 l2 = some r) :
  Calls Try.prog 22 #[.agg #[.int .i64 a0_0, .slice A0_1 l0_1.length c0_1, .slice A0_2 l0_2.length c0_2, .slice A0_3 l0_3.length c0_3, .slice A0_4 l0_4.length c0_4, .slice A0_5 l0_5.length c0_5], .slice A1 l1.length c1, .slice A2 l2.length c2] w fun e w' => ∃ v0_ : Value, e = .returned (v0_) ∧ Kd.R (Kd.int .i64) 3 w' w.heap.size (fun _ => True) v0_ r ∧ Below w.heap.size w w' := by
 have hv : validB a0_0 l0_1 l0_2 l0_3 l0_4 l0_5 = true := by
  by_cases h2 : validB a0_0 l0_1 l0_2 l0_3 l0_4 l0_5 = true
  ·
   exact h2
  ·
   unfold talikref07_Foul.f at h
   rw [if_neg h2] at h
   cases h
 have hr : rfV a0_0.toNat l0_1 l0_2 l1 l2 = r := by
  unfold talikref07_Foul.f at h
  rw [if_pos hv] at h
  exact Option.some.inj h
 have HV := qab.mk (valid_facts hv)
 have hpp := HV.out.pp
 obtain ⟨P, rfl⟩ := Int.eq_ofNat_of_zero_le (show 0 ≤ a0_0 by omega)
 rw [Int.toNat_natCast] at hr
 have HRR := qab.mk hr
 clear h hr hv
 have hu27 := Try.underlying27
 have hu44 := Try.underlying44
 have m2 := Kd.C_max hr2
 have n1 := HV.out.n1
 have HR1 := qab.mk hr0_1
 have HR2 := qab.mk hr0_2
 have HD := qab.mk hr1
 have HTH := qab.mk hr2
 have HB := qab.mk (Below.refl w.heap.size w)
 clear hr0_1 hr0_2 hr0_3 hr0_4 hr0_5 hr1 hr2 hc2
 obtain ⟨N, hN⟩ : ∃ N, N = l2.length := ⟨_, rfl⟩
 have HNN := qab.mk hN
 go_enter Try.func22, Try.ntmps22
 go_wp2_with ((with_reducible refine qam (N := 3) rfl ?_); refine ze 3 #[.int .i64 (P : Int), .slice A0_1 l0_1.length c0_1, .slice A0_2 l0_2.length c0_2, .slice A0_3 l0_3.length c0_3, .slice A0_4 l0_4.length c0_4, .slice A0_5 l0_5.length c0_5] 27 ?_; intro gb hg_gb w2 hbox hb; have BKgb := qab.mk hbox; have n_HB := qab.mk (qae HB.out hb); have GEgb : w.heap.size ≤ gb := (by rw [hg_gb]; exact HB.out.size); clear HB; have HB := n_HB; clear n_HB; obtain ⟨hfgb, hcgb_0, hcgb_1, hcgb_2, hcgb_3, hcgb_4, hcgb_5⟩ := qz6 BKgb.out; clear hbox hb hg_gb)
 have HF : qab (RF w gb #[.int .i64 (P : Int), .slice A0_1 l0_1.length c0_1, .slice A0_2 l0_2.length c0_2, .slice A0_3 l0_3.length c0_3, .slice A0_4 l0_4.length c0_4, .slice A0_5 l0_5.length c0_5] (.slice none 0 0) (rfInit l0_2 N 0) w2) := ⟨HB.out, BKgb.out, Kd.R_nil _ _ _ _ _⟩
 clear BKgb HB hfgb hcgb_0 hcgb_1 hcgb_2 hcgb_3 hcgb_4 hcgb_5 hN
 go_loopw [7, 8] (fun s7 s8 wr => ∃ (k : Nat) (v : Value), k ≤ P ∧ s8 = .int .i64 k ∧ v = s7 ∧ qab (RF w gb #[.int .i64 (P : Int), .slice A0_1 l0_1.length c0_1, .slice A0_2 l0_2.length c0_2, .slice A0_3 l0_3.length c0_3, .slice A0_4 l0_4.length c0_4, .slice A0_5 l0_5.length c0_5] v (rfInit l0_2 N k) wr)) (fun _ s _ => P - (intOf s).toNat)
 case atStart => exact ⟨0, _, by omega, rfl, rfl, HF⟩
 case round =>
  clear HF
  obtain ⟨k, v, hk, rfl, rfl, HF⟩ := hrel
  have q0 : wr.cell? ⟨gb, 0, none⟩ = some (.int .i64 (P : Int)) := (qaa HF.out.b 0).trans rfl
  by_cases hlt : k < P
  ·
   have q2 : wr.cell? ⟨gb, 2, none⟩ = some (.slice A0_2 l0_2.length c0_2) := (qaa HF.out.b 2).trans rfl
   obtain ⟨cb, hcb⟩ : ∃ b, b = l0_2.contains (k : Int) := ⟨_, rfl⟩
   have HHS : qab (∀ W, Below w.heap.size w W → Calls Try.prog 25 #[.slice A0_2 l0_2.length c0_2, .int .i64 (k : Int)] W fun e w' => e = .returned (.bool cb) ∧ Below W.heap.size W w') := ⟨fun W hW => by rw [hcb]; exact rhas_calls _ _ _ _ W (Kd.qai HR2.out hW) hc0_2⟩
   have HS := qab.mk (rfInit_succ l0_2 N k)
   rw [← hcb] at HS
   have HL : qab ((rfInit l0_2 N k).length ≤ 10) := ⟨by rw [rfInit_length]; omega⟩
   clear hcb
   cases cb with
   | false =>
    go_wp2_with (first | (go_at_call 25; (with_reducible refine (HHS.out _ HF.out.hb).mono ?_); rintro e wn ⟨rfl, hb⟩; have HF2 := qab.mk (HF.out.below hb); clear hb) | (with_reducible refine gate_builtin (b := .append) (xs := #[.tmp 26, .tmp 28]) rfl ?_); at_builtin; refine Kd.R_append (Kd.int .i64) (w0 := w) w.heap.size rfl (.tmp 26) (.tmp 28) 23 3 (.int .i64 0) 8 rfl Try.underlying23 info3 rfl (by decide) (by omega) v (rfInit l0_2 N k) (l2.length : Int) [.int .i64 (l2.length : Int)] (fun _ => True) (fun _ => False) rfl rfl ?aP (fun _ hk => hk.elim) ?aF ?aO ?aB ?aS ?aL ?_; (case aP => exact rfl); (case aF => exact fun _ _ => trivial); (case aO => exact HF2.out.o); (case aB => exact HF2.out.hb); (case aS => exact HF2.out.hb.size); (case aL => have := HL.out; omega); intro v1 w1 ho hB hg hat; have HF3 := qab.mk (HF2.out.app ho hB hg); clear ho hB hg hat)
    go_roundw
    case rel => exact ⟨k + 1, v1, by omega, by go_num, rfl, ⟨by rw [HS.out]; have h := HF3.out; rw [← HNN.out] at h; exact h⟩⟩
    case measure => simp [intOf]; omega
   | true =>
    go_wp2_with (first | (go_at_call 25; (with_reducible refine (HHS.out _ HF.out.hb).mono ?_); rintro e wn ⟨rfl, hb⟩; have HF2 := qab.mk (HF.out.below hb); clear hb) | (with_reducible refine gate_builtin (b := .append) (xs := #[.tmp 26, .tmp 28]) rfl ?_); at_builtin; refine Kd.R_append (Kd.int .i64) (w0 := w) w.heap.size rfl (.tmp 26) (.tmp 28) 23 3 (.int .i64 0) 8 rfl Try.underlying23 info3 rfl (by decide) (by omega) v (rfInit l0_2 N k) 0 [.int .i64 0] (fun _ => True) (fun _ => False) rfl rfl ?aP (fun _ hk => hk.elim) ?aF ?aO ?aB ?aS ?aL ?_; (case aP => exact rfl); (case aF => exact fun _ _ => trivial); (case aO => exact HF2.out.o); (case aB => exact HF2.out.hb); (case aS => exact HF2.out.hb.size); (case aL => have := HL.out; omega); intro v1 w1 ho hB hg hat; have HF3 := qab.mk (HF2.out.app ho hB hg); clear ho hB hg hat)
    go_roundw
    case rel => exact ⟨k + 1, v1, by omega, by go_num, rfl, ⟨by rw [HS.out]; exact HF3.out⟩⟩
    case measure => simp [intOf]; omega
  ·
   have hkP : k = P := by omega
   have HF1 : qab (RF w gb #[.int .i64 (P : Int), .slice A0_1 l0_1.length c0_1, .slice A0_2 l0_2.length c0_2, .slice A0_3 l0_3.length c0_3, .slice A0_4 l0_4.length c0_4, .slice A0_5 l0_5.length c0_5] v (rfTo P l0_1 l0_2 l1 l2 0) wr) := ⟨by have h := HF.out; rw [hkP] at h; unfold rfTo; rw [← HNN.out]; exact h⟩
   obtain ⟨go, cp, rfl, _⟩ := Kd.R_form HF1.out.o (by rw [rfTo_length]; omega)
   rw [rfTo_length] at HF1
   rw [rfTo_length]
   clear HF hkP
   go_wp2
   clear q0
   go_loopw [10] (fun s10 wr => ∃ y : Nat, y ≤ N ∧ s10 = .int .i64 y ∧ qab (RF w gb #[.int .i64 (P : Int), .slice A0_1 l0_1.length c0_1, .slice A0_2 l0_2.length c0_2, .slice A0_3 l0_3.length c0_3, .slice A0_4 l0_4.length c0_4, .slice A0_5 l0_5.length c0_5] (.slice (some ⟨go, 0, none⟩) P cp) (rfTo P l0_1 l0_2 l1 l2 y) wr)) (fun s _ => N - (intOf s).toNat)
   case atStart => exact ⟨0, by omega, rfl, HF1⟩
   case round =>
    clear HF1
    obtain ⟨y, hy, rfl, HF⟩ := hrel
    by_cases hlt : y < N
    ·
     obtain ⟨th, hth⟩ : ∃ x, x = rd l2 (y : Int) := ⟨_, rfl⟩
     have HY : qab (rfTo P l0_1 l0_2 l1 l2 (y + 1) = rfAgain l0_1 l1 th y (rfTo P l0_1 l0_2 l1 l2 y) P) := ⟨by rw [hth]; rfl⟩
     obtain ⟨at_, e, t0⟩ := Kd.at_int HTH.out y (by omega) (by have := HNN.out; omega)
     cases e
     rw [← hth] at t0
     simp only [Int.toNat_natCast] at t0
     have T0 := qab.mk t0
     have hyl : y < l2.length := by have := HNN.out; omega
     clear t0 hth
     obtain ⟨O, hO⟩ : ∃ O, O = rfTo P l0_1 l0_2 l1 l2 y := ⟨_, rfl⟩
     have HOL : qab (O.length = P) := ⟨by rw [hO]; exact rfTo_length _ _ _ _ _ _⟩
     rw [← hO] at HF HY
     clear hO
     go_wp2
     go_loopw [11] (fun s11 wr => ∃ m : Nat, m ≤ P ∧ s11 = .int .i64 m ∧ qab (RF w gb #[.int .i64 (P : Int), .slice A0_1 l0_1.length c0_1, .slice A0_2 l0_2.length c0_2, .slice A0_3 l0_3.length c0_3, .slice A0_4 l0_4.length c0_4, .slice A0_5 l0_5.length c0_5] (.slice (some ⟨go, 0, none⟩) P cp) (rfAgain l0_1 l1 th y O m) wr)) (fun s _ => P - (intOf s).toNat)
     case atStart => exact ⟨0, by omega, rfl, HF⟩
     case round =>
      clear HF
      obtain ⟨m, hm, rfl, HF⟩ := hrel
      have q0 : wr.cell? ⟨gb, 0, none⟩ = some (.int .i64 (P : Int)) := (qaa HF.out.b 0).trans rfl
      by_cases hlt2 : m < P
      ·
       obtain ⟨O2, hO2⟩ : ∃ O2, O2 = rfAgain l0_1 l1 th y O m := ⟨_, rfl⟩
       have HOL2 : qab (O2.length = P) := ⟨by rw [hO2, rfAgain_length]; exact HOL.out⟩
       have HM : qab (rfAgain l0_1 l1 th y O (m + 1) = rfEdges l0_1 l1 th y O2 l0_1.length) := ⟨by rw [hO2]; rfl⟩
       rw [← hO2] at HF
       clear hO2
       go_wp2
       clear q0
       go_loopw [12] (fun s12 wr => ∃ i : Nat, i ≤ l0_1.length ∧ s12 = .int .i64 i ∧ qab (RF w gb #[.int .i64 (P : Int), .slice A0_1 l0_1.length c0_1, .slice A0_2 l0_2.length c0_2, .slice A0_3 l0_3.length c0_3, .slice A0_4 l0_4.length c0_4, .slice A0_5 l0_5.length c0_5] (.slice (some ⟨go, 0, none⟩) P cp) (rfEdges l0_1 l1 th y O2 i) wr)) (fun s _ => l0_1.length - (intOf s).toNat)
       case atStart => exact ⟨0, by omega, rfl, HF⟩
       case round =>
        clear HF
        obtain ⟨i, hi, rfl, HI⟩ := hrel
        have q1 : wr.cell? ⟨gb, 1, none⟩ = some (.slice A0_1 l0_1.length c0_1) := (qaa HI.out.b 1).trans rfl
        obtain ⟨W0, rfl⟩ : ∃ W0, W0 = wr := ⟨_, rfl⟩
        by_cases hli : i < l0_1.length
        ·
         have hed := HV.out.e i hli
         obtain ⟨ad1, e, q4, q5, q6, q7⟩ := at_T44 (Kd.qai HR1.out HI.out.hb) i (by omega) (by omega)
         cases e
         simp only [Int.toNat_natCast] at q4 q5 q6 q7
         obtain ⟨O3, hO3⟩ : ∃ O3, O3 = rfEdges l0_1 l1 th y O2 i := ⟨_, rfl⟩
         have HOL3 : qab (O3.length = P) := ⟨by rw [hO3, rfEdges_length]; exact HOL2.out⟩
         have HO3 := qab.mk hO3
         rw [← hO3] at HI
         have HST : qab (rfStep l0_1 l1 th y O3 i = if l1.contains (i : Int) = true then O3 else if (qar l0_1 i).f2 ≤ th then if rd O3 (qar l0_1 i).f0 ≤ y then if y < rd O3 (qar l0_1 i).f1 then O3.set (qar l0_1 i).f1.toNat y else O3 else O3 else O3) := ⟨rfl⟩
         clear hO3
         generalize (qar l0_1 i).f0 = e0 at q4 HST hed
         generalize (qar l0_1 i).f1 = e1 at q5 HST hed
         generalize (qar l0_1 i).f2 = e2 at q6 HST hed
         generalize (qar l0_1 i).f3 = e3 at q7 hed
         obtain ⟨n0, rfl⟩ := Int.eq_ofNat_of_zero_le (show 0 ≤ e0 by omega)
         obtain ⟨n1, rfl⟩ := Int.eq_ofNat_of_zero_le (show 0 ≤ e1 by omega)
         have hn0 : n0 < P := by omega
         have hn1 : n1 < P := by omega
         clear hed
         obtain ⟨x0, hx0⟩ : ∃ x, x = rd O3 (n0 : Int) := ⟨_, rfl⟩
         obtain ⟨x1, hx1⟩ : ∃ x, x = rd O3 (n1 : Int) := ⟨_, rfl⟩
         rw [← hx0, ← hx1, Int.toNat_natCast] at HST
         have HX0 : qab (∀ W, Kd.R (Kd.int .i64) 3 W w.heap.size (fun _ => True) (.slice (some ⟨go, 0, none⟩) P cp) O3 → W.cell? ⟨go, n0, none⟩ = some (.int .i64 x0) ∧ W.cell? ⟨go, n1, none⟩ = some (.int .i64 x1)) := ⟨fun W h => ⟨by rw [hx0]; exact introw_at h n0 hn0, by rw [hx1]; exact introw_at h n1 hn1⟩⟩
         clear hx0 hx1
         have HBW := qab.mk (Below.refl W0.heap.size W0)
         go_upto_region 19 with ((with_reducible refine qam (N := 13) rfl ?_); refine ze 13 #[.int .i64 0, .int .i64 0, .int .i64 0, .int .i64 0] 44 ?_; intro ge hg_ge w3 hbox hb; have BKge := qab.mk hbox; have n_HB := qab.mk (qae HBW.out hb); have GEge : W0.heap.size ≤ ge := (by rw [hg_ge]; exact HBW.out.size); clear HBW; have HBW := n_HB; clear n_HB; obtain ⟨hfge, hcge_0, hcge_1, hcge_2, hcge_3⟩ := qz4 BKge.out; clear hbox hb hg_ge)
         clear q4 q5 q6 q7 hfge hcge_0 hcge_1 hcge_2 hcge_3 q1
         have he_ : setAll w3 ge [.int .i64 (n0 : Int), .int .i64 (n1 : Int), .int .i64 e2, .int .i64 e3] 0 = ((((w3.setCell ⟨ge, 0, none⟩ (.int .i64 (n0 : Int))).setCell ⟨ge, 1, none⟩ (.int .i64 (n1 : Int))).setCell ⟨ge, 2, none⟩ (.int .i64 e2)).setCell ⟨ge, 3, none⟩ (.int .i64 e3)) := rfl; have hbl := setAll_below GEge [.int .i64 (n0 : Int), .int .i64 (n1 : Int), .int .i64 e2, .int .i64 e3] 0 _ HBW.out; have hbx : (setAll w3 ge [.int .i64 (n0 : Int), .int .i64 (n1 : Int), .int .i64 e2, .int .i64 e3] 0).heap[ge]? = some (.cells #[.int .i64 (n0 : Int), .int .i64 (n1 : Int), .int .i64 e2, .int .i64 e3] 44 (0, 0)) := setAll_new [.int .i64 (n0 : Int), .int .i64 (n1 : Int), .int .i64 e2, .int .i64 e3] [.int .i64 0, .int .i64 0, .int .i64 0, .int .i64 0] BKge.out rfl; rw [he_] at hbl hbx ; clear he_; generalize ((((w3.setCell ⟨ge, 0, none⟩ (.int .i64 (n0 : Int))).setCell ⟨ge, 1, none⟩ (.int .i64 (n1 : Int))).setCell ⟨ge, 2, none⟩ (.int .i64 e2)).setCell ⟨ge, 3, none⟩ (.int .i64 e3)) = w5 at hbl hbx  ⊢; clear HBW BKge; have HBW := qab.mk hbl; have BKge := qab.mk hbx; clear hbl hbx
         have HI5 := qab.mk (HI.out.below HBW.out)
         have HT : qab (∀ W, Below w5.heap.size w5 W → (W.cell? ⟨ge, 0, none⟩ = some (.int .i64 (n0 : Int)) ∧ W.cell? ⟨ge, 1, none⟩ = some (.int .i64 (n1 : Int)) ∧ W.cell? ⟨ge, 2, none⟩ = some (.int .i64 e2) ∧ W.cell? (at_.add y) = some (.int .i64 th) ∧ W.cell? ⟨go, n0, none⟩ = some (.int .i64 x0) ∧ W.cell? ⟨go, n1, none⟩ = some (.int .i64 x1) ∧ qab (Below w5.heap.size w5 W))) := ⟨fun W h => ⟨(qaa (qad BKge.out h) 0).trans rfl, (qaa (qad BKge.out h) 1).trans rfl, (qaa (qad BKge.out h) 2).trans rfl, ((HI5.out.below h).hb.cell (World.block_lt_of_cell? w _ T0.out)).trans T0.out, (HX0.out W (HI5.out.below h).o).1, (HX0.out W (HI5.out.below h).o).2, ⟨h⟩⟩⟩
         obtain ⟨dy, hdy⟩ : ∃ b, b = l1.contains (i : Int) := ⟨_, rfl⟩
         have HDY : qab (∀ W, Below w5.heap.size w5 W → Calls Try.prog 25 #[.slice A1 l1.length c1, .int .i64 (i : Int)] W fun e w' => e = .returned (.bool dy) ∧ Below W.heap.size W w') := ⟨fun W hW => by rw [hdy]; exact rhas_calls _ _ _ _ W (Kd.qai HD.out (HI5.out.below hW).hb) hc1⟩
         rw [← hdy, HO3.out] at HST
         clear hdy
         cases dy with
         | true =>
          have HS : qab (rfStep l0_1 l1 th y (rfEdges l0_1 l1 th y O2 i) i = O3) := ⟨by rw [HST.out, ← HO3.out]; rfl⟩
          clear HST
          refine start_ (n := 31) (S := (fun w' => (w'.cell? ⟨ge, 0, none⟩ = some (.int .i64 (n0 : Int)) ∧ w'.cell? ⟨ge, 1, none⟩ = some (.int .i64 (n1 : Int)) ∧ w'.cell? ⟨ge, 2, none⟩ = some (.int .i64 e2) ∧ w'.cell? (at_.add y) = some (.int .i64 th) ∧ w'.cell? ⟨go, n0, none⟩ = some (.int .i64 x0) ∧ w'.cell? ⟨go, n1, none⟩ = some (.int .i64 x1) ∧ qab (Below w5.heap.size w5 w')))) (ds := []) (msk 31 0) (by kernel_rfl) rfl rfl (HT.out _ (qav (Below.refl _ _))) (fun hHeld => ?_)
          refine zq 0 1 54 ?_
          refine zq 1 2 55 ?_
          refine one_ (i := 2) (N := some 56) (msk 31 3) rfl rfl (by kernel_rfl) (by decide) (fun K hK => ?_)
          refine zg Try.func25 #[.slice A1 l1.length c1, .int .i64 (i : Int)] ?_
          refine (HDY.out _ hHeld.2.2.2.2.2.2.out).mono ?_; rintro e w6 ⟨rfl, hb⟩; have HP6 := qab.mk (HT.out w6 (qae hHeld.2.2.2.2.2.2.out hb)); clear hb; refine ⟨_, rfl, ?_⟩; refine hK.out _ _ HP6.out (fun hHeld => ?_); clear hK K; refine zn 56 ?_
          refine zq 3 4 57 ?_
          refine zq 4 5 58 ?_
          refine zo 5 6 59 ?_
          refine zo 6 7 60 ?_
          refine zo 7 8 61 ?_
          refine zo 8 9 62 ?_
          refine zo 9 10 63 ?_
          refine zo 10 11 64 ?_
          refine zo 11 12 65 ?_
          refine zq 12 13 66 ?_
          refine zq 13 14 67 ?_
          refine zo 14 15 68 ?_
          refine zo 15 16 69 ?_
          refine zo 16 17 70 ?_
          refine zo 17 18 71 ?_
          refine zo 18 19 72 ?_
          refine zo 19 20 73 ?_
          refine zo 20 21 74 ?_
          refine zq 21 22 75 ?_
          refine zq 22 23 76 ?_
          refine zo 23 24 77 ?_
          refine zo 24 25 78 ?_
          refine zo 25 26 79 ?_
          refine zo 26 27 80 ?_
          refine zo 27 28 81 ?_
          refine zo 28 29 82 ?_
          refine zo 29 30 83 ?_
          refine zq 30 31 84 ?_
          refine done_ (by kernel_rfl) ?_
          clear hHeld
          have HI6 := qab.mk (HI5.out.below HP6.out.2.2.2.2.2.2.out)
          go_wp2
          go_roundw
          case rel => exact ⟨i + 1, by omega, by go_num, ⟨by rw [rfEdges_succ, HS.out]; exact HI6.out⟩⟩
          case measure => simp [intOf]; omega
         | false =>
          rw [if_neg (by decide)] at HST
          by_cases hc1_ : e2 ≤ th
          ·
           have hd1 : decide (e2 ≤ th) = true := decide_eq_true hc1_
           rw [if_pos hc1_] at HST
           by_cases hc2_ : x0 ≤ (y : Int)
           ·
            have hd2 : decide (x0 ≤ (y : Int)) = true := decide_eq_true hc2_
            rw [if_pos hc2_] at HST
            by_cases hc3_ : (y : Int) < x1
            ·
             have hd3 : decide ((y : Int) < x1) = true := decide_eq_true hc3_
             have HS : qab (rfStep l0_1 l1 th y (rfEdges l0_1 l1 th y O2 i) i = O3.set n1 y) := ⟨by rw [HST.out, if_pos hc3_, ← HO3.out]⟩
             clear HST hc1_ hc2_ hc3_
             refine start_ (n := 31) (S := (fun w' => (w'.cell? ⟨ge, 0, none⟩ = some (.int .i64 (n0 : Int)) ∧ w'.cell? ⟨ge, 1, none⟩ = some (.int .i64 (n1 : Int)) ∧ w'.cell? ⟨ge, 2, none⟩ = some (.int .i64 e2) ∧ w'.cell? (at_.add y) = some (.int .i64 th) ∧ w'.cell? ⟨go, n0, none⟩ = some (.int .i64 x0) ∧ w'.cell? ⟨go, n1, none⟩ = some (.int .i64 x1) ∧ qab (Below w5.heap.size w5 w')))) (ds := []) (msk 31 0) (by kernel_rfl) rfl rfl (HT.out _ (qav (Below.refl _ _))) (fun hHeld => ?_)
             refine zq 0 1 54 ?_
             refine zq 1 2 55 ?_
             refine one_ (i := 2) (N := some 56) (msk 31 3) rfl rfl (by kernel_rfl) (by decide) (fun K hK => ?_)
             refine zg Try.func25 #[.slice A1 l1.length c1, .int .i64 (i : Int)] ?_
             refine (HDY.out _ hHeld.2.2.2.2.2.2.out).mono ?_; rintro e w6 ⟨rfl, hb⟩; have HP6 := qab.mk (HT.out w6 (qae hHeld.2.2.2.2.2.2.out hb)); clear hb; refine ⟨_, rfl, ?_⟩; refine hK.out _ _ HP6.out (fun hHeld => ?_); clear hK K; refine zn 56 ?_
             refine zq 3 4 57 ?_
             refine zq 4 5 58 ?_
             refine zq 5 6 59 ?_
             refine zq 6 7 60 ?_
             refine zq 7 8 61 ?_
             refine zt7 8 9 62 hHeld ?_
             refine zq 9 10 63 ?_
             refine zt7 10 11 64 hHeld ?_
             refine zq 11 12 65 ?_
             refine zq 12 13 66 ?_
             refine zq 13 14 67 ?_
             refine zq 14 15 68 ?_
             refine zq 15 16 69 ?_
             refine zt7 16 17 70 hHeld ?_
             refine zq 17 18 71 ?_
             refine zt7 18 19 72 hHeld ?_
             refine zq 19 20 73 ?_
             refine zq 20 21 74 ?_
             refine zq 21 22 75 ?_
             refine zq 22 23 76 ?_
             refine zq 23 24 77 ?_
             refine zq 24 25 78 ?_
             refine zt7 25 26 79 hHeld ?_
             refine zq 26 27 80 ?_
             refine zt7 27 28 81 hHeld ?_
             refine zq 28 29 82 ?_
             refine zq 29 30 83 ?_
             refine zq 30 31 84 ?_
             refine done_ (by kernel_rfl) ?_
             clear hHeld
             have HI6 := qab.mk (HI5.out.below HP6.out.2.2.2.2.2.2.out)
             obtain ⟨_, cso, hbo⟩ := R_blk HI6.out.o (by omega)
             have fr := qac hbo
             have g1 : w6.cell? ⟨ge, 1, none⟩ = some (.int .i64 (n1 : Int)) := HP6.out.2.1
             have g2 := HP6.out.2.2.2.2.2.1
             have HI7 := qab.mk (HI6.out.put (by omega) n1 (y : Int))
             clear hbo
             go_wp2
             go_roundw
             case rel => exact ⟨i + 1, by omega, by go_num, ⟨by rw [rfEdges_succ, HS.out]; exact HI7.out⟩⟩
             case measure => simp [intOf]; omega
            ·
             have hd3 : decide ((y : Int) < x1) = false := decide_eq_false hc3_
             have HS : qab (rfStep l0_1 l1 th y (rfEdges l0_1 l1 th y O2 i) i = O3) := ⟨by rw [HST.out, if_neg hc3_, ← HO3.out]⟩
             clear HST hc1_ hc2_ hc3_
             refine start_ (n := 31) (S := (fun w' => (w'.cell? ⟨ge, 0, none⟩ = some (.int .i64 (n0 : Int)) ∧ w'.cell? ⟨ge, 1, none⟩ = some (.int .i64 (n1 : Int)) ∧ w'.cell? ⟨ge, 2, none⟩ = some (.int .i64 e2) ∧ w'.cell? (at_.add y) = some (.int .i64 th) ∧ w'.cell? ⟨go, n0, none⟩ = some (.int .i64 x0) ∧ w'.cell? ⟨go, n1, none⟩ = some (.int .i64 x1) ∧ qab (Below w5.heap.size w5 w')))) (ds := []) (msk 31 0) (by kernel_rfl) rfl rfl (HT.out _ (qav (Below.refl _ _))) (fun hHeld => ?_)
             refine zq 0 1 54 ?_
             refine zq 1 2 55 ?_
             refine one_ (i := 2) (N := some 56) (msk 31 3) rfl rfl (by kernel_rfl) (by decide) (fun K hK => ?_)
             refine zg Try.func25 #[.slice A1 l1.length c1, .int .i64 (i : Int)] ?_
             refine (HDY.out _ hHeld.2.2.2.2.2.2.out).mono ?_; rintro e w6 ⟨rfl, hb⟩; have HP6 := qab.mk (HT.out w6 (qae hHeld.2.2.2.2.2.2.out hb)); clear hb; refine ⟨_, rfl, ?_⟩; refine hK.out _ _ HP6.out (fun hHeld => ?_); clear hK K; refine zn 56 ?_
             refine zq 3 4 57 ?_
             refine zq 4 5 58 ?_
             refine zq 5 6 59 ?_
             refine zq 6 7 60 ?_
             refine zq 7 8 61 ?_
             refine zt7 8 9 62 hHeld ?_
             refine zq 9 10 63 ?_
             refine zt7 10 11 64 hHeld ?_
             refine zq 11 12 65 ?_
             refine zq 12 13 66 ?_
             refine zq 13 14 67 ?_
             refine zq 14 15 68 ?_
             refine zq 15 16 69 ?_
             refine zt7 16 17 70 hHeld ?_
             refine zq 17 18 71 ?_
             refine zt7 18 19 72 hHeld ?_
             refine zq 19 20 73 ?_
             refine zq 20 21 74 ?_
             refine zq 21 22 75 ?_
             refine zq 22 23 76 ?_
             refine zq 23 24 77 ?_
             refine zq 24 25 78 ?_
             refine zt7 25 26 79 hHeld ?_
             refine zq 26 27 80 ?_
             refine zt7 27 28 81 hHeld ?_
             refine zq 28 29 82 ?_
             refine zq 29 30 83 ?_
             refine zq 30 31 84 ?_
             refine done_ (by kernel_rfl) ?_
             clear hHeld
             have HI6 := qab.mk (HI5.out.below HP6.out.2.2.2.2.2.2.out)
             go_wp2
             go_roundw
             case rel => exact ⟨i + 1, by omega, by go_num, ⟨by rw [rfEdges_succ, HS.out]; exact HI6.out⟩⟩
             case measure => simp [intOf]; omega
           ·
            have hd2 : decide (x0 ≤ (y : Int)) = false := decide_eq_false hc2_
            have HS : qab (rfStep l0_1 l1 th y (rfEdges l0_1 l1 th y O2 i) i = O3) := ⟨by rw [HST.out, if_neg hc2_, ← HO3.out]⟩
            clear HST hc1_ hc2_
            refine start_ (n := 31) (S := (fun w' => (w'.cell? ⟨ge, 0, none⟩ = some (.int .i64 (n0 : Int)) ∧ w'.cell? ⟨ge, 1, none⟩ = some (.int .i64 (n1 : Int)) ∧ w'.cell? ⟨ge, 2, none⟩ = some (.int .i64 e2) ∧ w'.cell? (at_.add y) = some (.int .i64 th) ∧ w'.cell? ⟨go, n0, none⟩ = some (.int .i64 x0) ∧ w'.cell? ⟨go, n1, none⟩ = some (.int .i64 x1) ∧ qab (Below w5.heap.size w5 w')))) (ds := []) (msk 31 0) (by kernel_rfl) rfl rfl (HT.out _ (qav (Below.refl _ _))) (fun hHeld => ?_)
            refine zq 0 1 54 ?_
            refine zq 1 2 55 ?_
            refine one_ (i := 2) (N := some 56) (msk 31 3) rfl rfl (by kernel_rfl) (by decide) (fun K hK => ?_)
            refine zg Try.func25 #[.slice A1 l1.length c1, .int .i64 (i : Int)] ?_
            refine (HDY.out _ hHeld.2.2.2.2.2.2.out).mono ?_; rintro e w6 ⟨rfl, hb⟩; have HP6 := qab.mk (HT.out w6 (qae hHeld.2.2.2.2.2.2.out hb)); clear hb; refine ⟨_, rfl, ?_⟩; refine hK.out _ _ HP6.out (fun hHeld => ?_); clear hK K; refine zn 56 ?_
            refine zq 3 4 57 ?_
            refine zq 4 5 58 ?_
            refine zq 5 6 59 ?_
            refine zq 6 7 60 ?_
            refine zq 7 8 61 ?_
            refine zt7 8 9 62 hHeld ?_
            refine zq 9 10 63 ?_
            refine zt7 10 11 64 hHeld ?_
            refine zq 11 12 65 ?_
            refine zq 12 13 66 ?_
            refine zq 13 14 67 ?_
            refine zq 14 15 68 ?_
            refine zq 15 16 69 ?_
            refine zt7 16 17 70 hHeld ?_
            refine zq 17 18 71 ?_
            refine zt7 18 19 72 hHeld ?_
            refine zq 19 20 73 ?_
            refine zq 20 21 74 ?_
            refine zq 21 22 75 ?_
            refine zq 22 23 76 ?_
            refine zo 23 24 77 ?_
            refine zo 24 25 78 ?_
            refine zo 25 26 79 ?_
            refine zo 26 27 80 ?_
            refine zo 27 28 81 ?_
            refine zo 28 29 82 ?_
            refine zo 29 30 83 ?_
            refine zq 30 31 84 ?_
            refine done_ (by kernel_rfl) ?_
            clear hHeld
            have HI6 := qab.mk (HI5.out.below HP6.out.2.2.2.2.2.2.out)
            go_wp2
            go_roundw
            case rel => exact ⟨i + 1, by omega, by go_num, ⟨by rw [rfEdges_succ, HS.out]; exact HI6.out⟩⟩
            case measure => simp [intOf]; omega
          ·
           have hd1 : decide (e2 ≤ th) = false := decide_eq_false hc1_
           have HS : qab (rfStep l0_1 l1 th y (rfEdges l0_1 l1 th y O2 i) i = O3) := ⟨by rw [HST.out, if_neg hc1_, ← HO3.out]⟩
           clear HST hc1_
           refine start_ (n := 31) (S := (fun w' => (w'.cell? ⟨ge, 0, none⟩ = some (.int .i64 (n0 : Int)) ∧ w'.cell? ⟨ge, 1, none⟩ = some (.int .i64 (n1 : Int)) ∧ w'.cell? ⟨ge, 2, none⟩ = some (.int .i64 e2) ∧ w'.cell? (at_.add y) = some (.int .i64 th) ∧ w'.cell? ⟨go, n0, none⟩ = some (.int .i64 x0) ∧ w'.cell? ⟨go, n1, none⟩ = some (.int .i64 x1) ∧ qab (Below w5.heap.size w5 w')))) (ds := []) (msk 31 0) (by kernel_rfl) rfl rfl (HT.out _ (qav (Below.refl _ _))) (fun hHeld => ?_)
           refine zq 0 1 54 ?_
           refine zq 1 2 55 ?_
           refine one_ (i := 2) (N := some 56) (msk 31 3) rfl rfl (by kernel_rfl) (by decide) (fun K hK => ?_)
           refine zg Try.func25 #[.slice A1 l1.length c1, .int .i64 (i : Int)] ?_
           refine (HDY.out _ hHeld.2.2.2.2.2.2.out).mono ?_; rintro e w6 ⟨rfl, hb⟩; have HP6 := qab.mk (HT.out w6 (qae hHeld.2.2.2.2.2.2.out hb)); clear hb; refine ⟨_, rfl, ?_⟩; refine hK.out _ _ HP6.out (fun hHeld => ?_); clear hK K; refine zn 56 ?_
           refine zq 3 4 57 ?_
           refine zq 4 5 58 ?_
           refine zq 5 6 59 ?_
           refine zq 6 7 60 ?_
           refine zq 7 8 61 ?_
           refine zt7 8 9 62 hHeld ?_
           refine zq 9 10 63 ?_
           refine zt7 10 11 64 hHeld ?_
           refine zq 11 12 65 ?_
           refine zq 12 13 66 ?_
           refine zq 13 14 67 ?_
           refine zo 14 15 68 ?_
           refine zo 15 16 69 ?_
           refine zo 16 17 70 ?_
           refine zo 17 18 71 ?_
           refine zo 18 19 72 ?_
           refine zo 19 20 73 ?_
           refine zo 20 21 74 ?_
           refine zq 21 22 75 ?_
           refine zq 22 23 76 ?_
           refine zo 23 24 77 ?_
           refine zo 24 25 78 ?_
           refine zo 25 26 79 ?_
           refine zo 26 27 80 ?_
           refine zo 27 28 81 ?_
           refine zo 28 29 82 ?_
           refine zo 29 30 83 ?_
           refine zq 30 31 84 ?_
           refine done_ (by kernel_rfl) ?_
           clear hHeld
           have HI6 := qab.mk (HI5.out.below HP6.out.2.2.2.2.2.2.out)
           go_wp2
           go_roundw
           case rel => exact ⟨i + 1, by omega, by go_num, ⟨by rw [rfEdges_succ, HS.out]; exact HI6.out⟩⟩
           case measure => simp [intOf]; omega
        ·
         have hiE : i = l0_1.length := by omega
         rw [hiE] at HI
         clear hiE
         go_wp2
         go_roundw
         case rel => exact ⟨m + 1, by omega, by go_num, ⟨by rw [HM.out]; exact HI.out⟩⟩
         case measure => simp [intOf]; omega
      ·
       have hmE : m = P := by omega
       rw [hmE] at HF
       clear hmE
       go_wp2
       go_roundw
       case rel => exact ⟨y + 1, by omega, by go_num, ⟨by rw [HY.out]; exact HF.out⟩⟩
       case measure => simp [intOf]; omega
    ·
     have hyE : y = l2.length := by have := HNN.out; omega
     have HZ : qab (RF w gb #[.int .i64 (P : Int), .slice A0_1 l0_1.length c0_1, .slice A0_2 l0_2.length c0_2, .slice A0_3 l0_3.length c0_3, .slice A0_4 l0_4.length c0_4, .slice A0_5 l0_5.length c0_5] (.slice (some ⟨go, 0, none⟩) P cp) r wr) := ⟨by have h := HF.out; rw [hyE] at h; rw [← HRR.out]; exact h⟩
     clear HF hyE
     have hyl : ¬ y < l2.length := by have := HNN.out; omega
     go_wp2
     go_ret
     exact ⟨_, rfl, HZ.out.o, HZ.out.hb⟩
end Go.Proofs.Ytafkanmioinbiaa.SA
