/- What functions of the program answer. No condition. -/
import Derived.RangeFuncNested
import Derived.RangeFuncBound
import Derived.RangeFuncCalls
import Derived.RangeFuncLeaves
import Derived.RangeFuncBox
import Derived.Shelf.Abstract
import Derived.Shelf.RegionOpen
import Derived.OwnWalkIn
import Derived.TacticsInMore
import Derived.LoopNIn
import Derived.LoopIn
import Derived.Recover
import Derived.Defers
import Derived.WalkLawsBesides
import Derived.WalkSmall
import Derived.Test.YtafkanmioinbiaaFrB
import Derived.Test.YtafkanmioinbiaaSC
import Derived.Test.YtafkanmioinbiaaSD
import Derived.Test.YtafkanmioinbiaaSE
import Derived.Test.YtafkanmioinbiaaSG
import Derived.Test.YtafkanmioinbiaaSH
import Derived.Test.YtafkanmioinbiaaSJ
import Derived.Test.YtafkanmioinbiaaSK
import Derived.Test.YtafkanmioinbiaaSL
import Derived.Test.YtafkanmioinbiaaFrC
import Derived.Test.YtafkanmioinbiaaFrD
import Derived.Deep.Slices
import Derived.Lib.SmallJoins
import Derived.ChangeOld
import Derived.ProofKit
set_option linter.all false
set_option maxRecDepth 100000
set_option maxHeartbeats 8000000
namespace Go.Proofs.Ytafkanmioinbiaa.SA
open Go.RowKit Go.Shelf Go.Proofs.YtafkanmioinbiaaW.PrintWords Go.Proofs.YtafkanmioinbiaaW.PrintLast Go.Proofs.YtafkanmioinbiaaW.PrintMore
attribute [local go_sem] qbc qbe max_two min_two qaz qba qbd qbf
section
variable {p : Int} {l1 : List S44} {l2 l3 : List Int} {l4 : List S41} {l5 : List S95} {l : List Int}
theorem cost_go (hv : validB p l1 l2 l3 l4 l5 = true) (hr : ∀ x ∈ l, 0 ≤ x ∧ x < l1.length) (hl : l.length ≤ 100) : ∀ (m i k : Nat), i + m = l.length → m + 1 ≤ k → (-(i : Int) ≤ costV l1 (l.take i) ∧ costV l1 (l.take i) ≤ i * 1000000) ∧ talikref07_Cost.l0 k l (costV l1 (l.take i)) (i : Int) p l1 l2 l3 l4 l5 = some (costV l1 l) := by
 have bnd : ∀ i, i ≤ l.length → -(i : Int) ≤ costV l1 (l.take i) ∧ costV l1 (l.take i) ≤ i * 1000000 := by
  intro i
  induction i with
  | zero => intro _; simp [costV]
  | succ i ih =>
   intro hi
   have h := ih (by omega)
   have hil : i < l.length := by omega
   have hx := hr l[i] (List.getElem_mem hil)
   obtain ⟨n, hn⟩ := Int.eq_ofNat_of_zero_le hx.1
   have hc := valid_cost p l1 l2 l3 l4 l5 hv n (by omega)
   have e : costV l1 (l.take (i + 1)) = costV l1 (l.take i) + (qax l1 (n : Int)).f3 := by
    unfold costV
    rw [List.take_succ, List.getElem?_eq_getElem hil, List.map_append, List.sum_append, hn]
    simp
   rw [e]
   push_cast
   omega
 intro m
 induction m with
 | zero =>
  intro i k hi hk
  obtain ⟨k, rfl⟩ : ∃ m, k = m + 1 := ⟨k - 1, by omega⟩
  refine ⟨bnd i (by omega), ?_⟩
  rw [talikref07_Cost.l0]
  rw [if_neg (by omega), List.take_of_length_le (by omega)]
 | succ m ih =>
  intro i k hi hk
  obtain ⟨k, rfl⟩ : ∃ m, k = m + 1 := ⟨k - 1, by omega⟩
  have hil : i < l.length := by omega
  have hx := hr l[i] (List.getElem_mem hil)
  obtain ⟨n, hn⟩ := Int.eq_ofNat_of_zero_le hx.1
  have hc := valid_cost p l1 l2 l3 l4 l5 hv n (by omega)
  have hb := bnd i (by omega)
  have er : rd l (i : Int) = (n : Int) := by rw [← hn]; simp [rd, hil]
  have e : costV l1 (l.take (i + 1)) = costV l1 (l.take i) + (qax l1 (n : Int)).f3 := by
   unfold costV
   rw [List.take_succ, List.getElem?_eq_getElem hil, List.map_append, List.sum_append, hn]
   simp
  refine ⟨hb, ?_⟩
  rw [talikref07_Cost.l0]
  rw [if_pos (by omega), if_pos (by omega), er, if_pos (by omega), if_pos (by omega), wsucc i (by omega), show wrap64 (costV l1 (l.take i) + (qax l1 (n : Int)).f3) = costV l1 (l.take (i + 1)) from by rw [e]; unfold wrap64; omega]
  exact (ih (i + 1) k (by omega) (by omega)).2
theorem cost_eq (hv : validB p l1 l2 l3 l4 l5 = true) (hr : ∀ x ∈ l, 0 ≤ x ∧ x < l1.length) (hl : l.length ≤ 100) (k : Nat) (hk : l.length + 1 ≤ k) : talikref07_Cost.f k p l1 l2 l3 l4 l5 l = some (costV l1 l) :=
 (cost_go hv hr hl l.length 0 k (by omega) (by omega)).2
theorem given_mem (hg : givenB p l1 l2 l3 l4 l5 l = true) : ∀ x ∈ l, 0 ≤ x ∧ x < l1.length := by
 have n1 := (valid_facts (given_valid hg)).n1
 exact inc_mem (given_inc hg) (.inr (by omega)) (by omega)
theorem given_len (hg : givenB p l1 l2 l3 l4 l5 l = true) : l.length ≤ 12 := by
 have n1 := (valid_facts (given_valid hg)).n1
 have := incB_len (given_inc hg) (by omega) (by omega)
 omega
theorem clean_go (hg : givenB p l1 l2 l3 l4 l5 l = true) : ∀ (m i k : Nat), i + m = l3.length → m + 1 ≤ k → (∀ j : Nat, j < i → rd (mostY p l1 l2 l4 (maskV l)) (rd l3 j) = l4.length) →
  taliklaw07_clean.l0 k ((List.range p.toNat).map (spanAt (mostY p l1 l2 l4 (maskV l)) (leastY p l1 l2 l4 (maskV l)))) (i : Int) p l1 l2 l3 l4 l5 = some (keepsB p l1 l2 l3 l4 (maskV l), true) := by
 have hv := given_valid hg
 have hV := valid_facts hv
 have hF := foul_isF hg (l4.map (·.f1))
 rw [List.length_map] at hF
 intro m
 induction m with
 | zero =>
  intro i k hi hk hp
  obtain ⟨k, rfl⟩ : ∃ m, k = m + 1 := ⟨k - 1, by omega⟩
  rw [taliklaw07_clean.l0]
  rw [if_neg (by omega)]
  have : keepsB p l1 l2 l3 l4 (maskV l) = true := by
   unfold keepsB
   rw [Bool.not_eq_true', List.any_eq_false]
   intro x hx
   obtain ⟨j, hj, rfl⟩ := List.mem_iff_getElem.1 hx
   have h1 := hp j (by omega)
   rw [show rd l3 (j : Int) = l3[j] from by simp [rd, hj]] at h1
   change rd (foulV p.toNat l1 l2 (maskV l) (l4.map (·.f1))) l3[j] = _ at h1
   rw [h1]
   simp
  rw [this]
 | succ m ih =>
  intro i k hi hk hp
  obtain ⟨k, rfl⟩ : ∃ m, k = m + 1 := ⟨k - 1, by omega⟩
  have n3 := hV.n3
  have hil : i < l3.length := by omega
  have er : rd l3 (i : Int) = l3[i] := by simp [rd, hil]
  have hw := hV.w3 l3[i] (List.getElem_mem hil)
  rw [taliklaw07_clean.l0]
  rw [if_pos (by omega), if_pos (by omega), if_pos (by rw [er]; omega), if_pos (by rw [er]; simp; omega), er, rd_spans _ _ p.toNat l3[i] hw.1 (by omega)]
  by_cases h : rd (mostY p l1 l2 l4 (maskV l)) l3[i] = (l4.length : Int)
  ·
   rw [if_pos h, wsucc i (by omega)]
   refine ih (i + 1) k (by omega) (by omega) (fun j hj => ?_)
   rcases Nat.lt_or_ge j i with h2 | h2
   ·
    exact hp j h2
   ·
    obtain rfl : j = i := by omega
    rw [er]
    exact h
  ·
   rw [if_neg h]
   have hr := (hF.rng l3[i] hw.1 (by omega)).2
   have : keepsB p l1 l2 l3 l4 (maskV l) = false := by
    unfold keepsB
    rw [Bool.not_eq_false', List.any_eq_true]
    refine ⟨l3[i], List.getElem_mem hil, ?_⟩
    have h3 : ¬ rd (foulV p.toNat l1 l2 (maskV l) (l4.map (·.f1))) l3[i] = (l4.length : Int) := h
    simp
    omega
   rw [this]
theorem clean_eq (hg : givenB p l1 l2 l3 l4 l5 l = true) (k : Nat) (hk : 20 ≤ k) : taliklaw07_clean.f k p l1 l2 l3 l4 l5 l = some (keepsB p l1 l2 l3 l4 (maskV l), true) := by
 have hv := given_valid hg
 have hpp := (valid_facts hv).pp
 have n3 := (valid_facts hv).n3
 obtain ⟨k, rfl⟩ : ∃ m, k = m + 1 := ⟨k - 1, by omega⟩
 have hye : seep_Years.f p l1 l2 l3 l4 l5 l = some ((List.range p.toNat).map (spanAt (mostY p l1 l2 l4 (maskV l)) (leastY p l1 l2 l4 (maskV l))), 0) := by
  unfold seep_Years.f yearsV
  rw [if_pos hg]
 unfold taliklaw07_clean.f
 rw [hye]
 simp only [Option.bind_some, if_true]
 rw [show ((((List.range p.toNat).map (spanAt (mostY p l1 l2 l4 (maskV l)) (leastY p l1 l2 l4 (maskV l)))).length : Int) != p) = false from by simp; omega]
 rw [taliklaw07_clean.j0]
 rw [if_neg (by decide)]
 exact clean_go hg l3.length 0 k (by omega) (by omega) (fun j hj => by omega)
end
theorem before_go (a b : List Int) (hl : a.length = b.length) (h1 : a.length ≤ 1000) : ∀ (m i k : Nat), i + m = a.length → 2 * m + 2 ≤ k → talikref07_Before.l0 k a b (i : Int) = some (decide (cmpL (a.drop i) (b.drop i) < 0)) := by
 intro m
 induction m with
 | zero =>
  intro i k hi hk
  obtain ⟨k, rfl⟩ : ∃ m, k = m + 2 := ⟨k - 2, by omega⟩
  rw [talikref07_Before.l0]
  rw [if_neg (by omega), talikref07_Before.j1]
  rw [if_neg (by decide), List.drop_eq_nil_of_le (by omega), List.drop_eq_nil_of_le (by omega)]
  simp [cmpL]
 | succ m ih =>
  intro i k hi hk
  obtain ⟨k, rfl⟩ : ∃ m, k = m + 2 := ⟨k - 2, by omega⟩
  have hia : i < a.length := by omega
  have hib : i < b.length := by omega
  have ea : rd a (i : Int) = a[i] := by simp [rd, hia]
  have eb : rd b (i : Int) = b[i] := by simp [rd, hib]
  rw [talikref07_Before.l0]
  rw [if_pos (by omega), talikref07_Before.j1]
  rw [if_pos (decide_eq_true (by omega)), if_pos (by omega), if_pos (by omega), if_pos (by omega), ea, eb, List.drop_eq_getElem_cons hia, List.drop_eq_getElem_cons hib]
  obtain ⟨c1, c2, c3⟩ := cmpI_nat a[i] b[i]
  by_cases h : a[i] = b[i]
  ·
   rw [if_pos h, wsucc i (by omega), ih (i + 1) k (by omega) (by omega)]
   have e2 : cmpL (a[i] :: a.drop (i + 1)) (b[i] :: b.drop (i + 1)) = cmpL (a.drop (i + 1)) (b.drop (i + 1)) := by rw [cmpL, if_pos (c1.2 h)]
   rw [show decide (cmpL (a[i] :: a.drop (i + 1)) (b[i] :: b.drop (i + 1)) < 0) = decide (cmpL (a.drop (i + 1)) (b.drop (i + 1)) < 0) from by simp only [e2]]
  ·
   rw [if_neg h]
   have e2 : cmpL (a[i] :: a.drop (i + 1)) (b[i] :: b.drop (i + 1)) = cmpI a[i] b[i] := by rw [cmpL, if_neg (fun e => h (c1.1 e))]
   rw [show decide (cmpL (a[i] :: a.drop (i + 1)) (b[i] :: b.drop (i + 1)) < 0) = decide (cmpI a[i] b[i] < 0) from by simp only [e2]]
   congr 1
   exact decide_eq_decide.2 c2.symm
theorem before_eq (a b : List Int) (hl : a.length = b.length) (h1 : a.length ≤ 100) (k : Nat) (hk : 210 ≤ k) : talikref07_Before.f k a b = some (decide (cmpL a b < 0)) :=
 before_go a b hl (by omega) a.length 0 k (by omega) (by omega)
theorem rivals_true (q : Nat) (hq : 299 ≤ q) (p : Int) (l1 : List S44) (l2 l3 : List Int) (l4 : List S41) (l5 : List S95) (l : List Int) : taliklaw07_SeepRivals.f (q + 1) p l1 l2 l3 l4 l5 l = some true := by
 obtain ⟨q, rfl⟩ : ∃ r, q = r + 2 := ⟨q - 2, by omega⟩
 unfold taliklaw07_SeepRivals.f
 rw [short_eq]
 simp only [Option.bind_some]
 have hknown : taliklaw07_SeepRivals.j0 (q + 2 + 1) l true p l1 l2 l3 l4 l5 = some true := by
  rw [taliklaw07_SeepRivals.j0]
  rw [if_pos rfl, known_some]
  rfl
 cases hs : shortB l1 l2 l3 l4 l5 with
 | false => rw [if_neg (by simp)]; exact hknown
 | true =>
  rw [if_pos rfl]
  by_cases h1 : (l.length : Int) > 16
  ·
   rw [if_pos h1]; exact hknown
  ·
   rw [if_neg h1, asked_eq]
   simp only [Option.bind_some]
   cases hg : givenB p l1 l2 l3 l4 l5 l with
   | false => exact hknown
   | true =>
    have hv := given_valid hg
    rw [taliklaw07_SeepRivals.j0]
    rw [if_neg (by decide), show seep_Dykes.f p l1 l2 l3 l4 l5 = some (dykR (bestV (holdsV p l1 l2 l3 l4 l5) (choicesV l1))) from by unfold seep_Dykes.f dykesV; rw [if_pos hv], clean_eq hg (q + 2) (by omega)]
    simp only [Option.bind_some, if_true]
    have hb := best_spec (holdsV p l1 l2 l3 l4 l5) (choicesV l1) none (fun y hy => by cases hy)
    have ho : holdsV p l1 l2 l3 l4 l5 (costV l1 l, l) = keepsB p l1 l2 l3 l4 (maskV l) := by
     unfold holdsV
     rw [hg]
     rfl
    cases hr : bestV (holdsV p l1 l2 l3 l4 l5) (choicesV l1) with
    | none =>
     change (choicesV l1).foldl (bestS (holdsV p l1 l2 l3 l4 l5)) none = none at hr
     rw [hr] at hb
     have hk : keepsB p l1 l2 l3 l4 (maskV l) = false := by rw [← ho]; exact hb.2 _ (choices_of hg)
     rw [hk]
     simp [dykR, known_some]
    | some y =>
     change (choicesV l1).foldl (bestS (holdsV p l1 l2 l3 l4 l5)) none = some y at hr
     rw [hr] at hb
     obtain ⟨i1, i2, i3, _⟩ := hb
     have hy : y ∈ choicesV l1 := by
      rcases i2 with i2 | i2
      ·
       cases i2
      ·
       exact i2
     obtain ⟨y1, y2⟩ := y
     unfold holdsV at i1
     simp only [Bool.and_eq_true] at i1
     have hgy := i1.1
     have hcy : y1 = costV l1 y2 := choices_cost (y1, y2) hy
     simp only [dykR, if_true]
     rw [show talikref07_Dam.f p l1 l2 l3 l4 l5 y2 = some true from by unfold talikref07_Dam.f; rw [dam_given p l1 l2 l3 l4 l5 hv, hgy]]
     simp only [Option.bind_some, if_true]
     rw [cost_eq hv (given_mem hgy) (by have := given_len hgy; omega) (q + 2) (by have := given_len hgy; omega)]
     simp only [Option.bind_some]
     rw [show (y1 != costV l1 y2) = false from by simp [hcy], taliklaw07_SeepRivals.j1]
     rw [if_neg (by decide), clean_eq hgy (q + 1) (by omega), show keepsB p l1 l2 l3 l4 (maskV y2) = true from i1.2]
     simp only [Option.bind_some, if_true]
     rw [show (!true) = false from rfl, taliklaw07_SeepRivals.j2]
     rw [if_neg (by decide), cost_eq hv (given_mem hg) (by omega) q (by omega)]
     simp only [Option.bind_some]
     cases hk : keepsB p l1 l2 l3 l4 (maskV l) with
     | false => simp [known_some]
     | true =>
      have hnb := i3 _ (choices_of hg) (by rw [ho, hk])
      have hnb' : ¬ beforeB (costV l1 l, l) (y1, y2) = true := by rw [hnb]; simp
      rw [before_iff] at hnb'
      simp only [if_true]
      by_cases c1 : costV l1 l > y1
      ·
       rw [if_pos c1]; simp [known_some]
      ·
       rw [if_neg c1]
       by_cases c2 : costV l1 l = y1
       ·
        rw [if_pos c2]
        by_cases c3 : (l.length : Int) > (y2.length : Int)
        ·
         rw [if_pos c3]; simp [known_some]
        ·
         rw [if_neg c3]
         by_cases c4 : (l.length : Int) = (y2.length : Int)
         ·
          rw [if_pos c4, before_eq l y2 (by omega) (by omega) q (by omega)]
          have c5 : decide (cmpL l y2 < 0) = false := decide_eq_false (fun h => hnb' (.inr ⟨c2, .inr ⟨by show l.length = y2.length; omega, h⟩⟩))
          rw [c5]
          simp [known_some]
         ·
          exact absurd (.inr ⟨c2, .inl (by show l.length < y2.length; omega)⟩) hnb'
       ·
        exact absurd (.inl (by show costV l1 l < y1; omega)) hnb'
def Opens {α : Type} (d : Kd α) (t : TypeId) : Prop := ∀ (H : Type) (enc : TypeId × Value → H) (w : World) (base fuel : Nat) (cs : List Value) (x : DataW H × List MemPlace), DataW.trod enc Try.prog w base (fun _ => true) true fuel t cs = some x → ∃ v, d.K w v cs
theorem opens_int : Opens (Kd.int .i64) 3 := by
 intro H enc w base fuel cs x h
 obtain ⟨n, rfl, _, _⟩ := DataW.trod_int Try.underlying3 h
 exact ⟨n, rfl⟩
theorem cell_of_cells {w : World} {base n : Nat} {a : Addr} {cs : List Value} (h : w.cells? base a n = some cs) : cs.length = n ∧ ∀ i u, cs[i]? = some u → w.cell? (a.add i) = some u := by
 unfold World.cells? at h
 split at h
 ·
  refine ⟨by simpa using mapM_some_length h, fun i u hu => ?_⟩
  have hi : i < n := by
   have h1 := mapM_some_length h
   have h2 := (List.getElem?_eq_some_iff.1 hu).1
   simp at h1
   omega
  have h3 := mapM_some_get h i i (by simp [hi])
  rw [h3]
  exact hu
 ·
  cases h
theorem opens_slice {α : Type} {d : Kd α} {t e : TypeId} (z : α) (ht : Try.prog.underlying t = some (.slice e)) (hz : Try.prog.cellsOf e = d.sz) (hd : Opens d e) : Opens (Kd.slice e d) t := by
 intro H enc w base fuel cs x h
 rcases Deep.open_slice ht h with ⟨rfl, _⟩ | ⟨a, len, cap, m, n, D, Pl, rfl, hb, hl, hm, hmm, _, hel⟩
 ·
  exact ⟨[], none, 0, rfl, Nat.le_refl _, rfl, by simp, fun h => absurd h (by simp)⟩
 ·
  simp only [if_true] at hmm
  subst hmm
  haveI : Inhabited (α × List Value) := ⟨(z, [])⟩
  obtain ⟨F, hF⟩ : ∃ F : Nat → α × List Value, ∀ i, i < len → w.cells? base (a.add (i * Try.prog.cellsOf e)) (Try.prog.cellsOf e) = some (F i).2 ∧ d.K w (F i).1 (F i).2 := by
   have hx : ∀ i, i < len → ∃ q : α × List Value, w.cells? base (a.add (i * Try.prog.cellsOf e)) (Try.prog.cellsOf e) = some q.2 ∧ d.K w q.1 q.2 := fun i hi => by
    obtain ⟨cs', h1, h2⟩ := hel i (by omega)
    obtain ⟨v, hv⟩ := hd H enc w base n cs' _ h2
    exact ⟨(v, cs'), h1, hv⟩
   exact Deep.choose_lt hx
  have hlen : ((List.range len).map fun i => (F i).1).length = len := by simp
  refine ⟨(List.range len).map fun i => (F i).1, some a, m, by rw [hlen], by rw [hlen]; exact hl, rfl, ?_, fun _ => ⟨a, rfl, fun j p hj => ?_⟩⟩
  ·
   rw [hlen]
   have : maxLen ≤ 9223372036854775807 := by decide
   omega
  ·
   obtain ⟨hj1, hj2⟩ := List.getElem?_eq_some_iff.1 hj
   have hjl : j < len := by simpa using hj1
   have hp : p = (F j).1 := by simpa using hj2.symm
   subst hp
   obtain ⟨h1, h2⟩ := hF j hjl
   refine ⟨(F j).2, d.K_len h2, h2, fun i u hu => ?_⟩
   have h3 := (cell_of_cells h1).2 i u hu
   rw [Deep.add_add, hz] at h3
   exact h3
theorem K_pair {α β : Type} {a : Kd α} {b : Kd β} {w : World} {cs : List Value} {o : Nat} {x : α} {y : β} (h1 : a.K w x ((cs.drop o).take a.sz)) (h2 : b.K w y (cs.drop (o + a.sz))) : (Kd.pair a b).K w (x, y) (cs.drop o) :=
 ⟨_, _, by have h := (List.take_append_drop a.sz (cs.drop o)).symm; rwa [List.drop_drop] at h, h1, h2⟩
theorem K_last {α : Type} {a : Kd α} {w : World} {cs : List Value} {o : Nat} {x : α} (h1 : a.K w x ((cs.drop o).take a.sz)) (hl : cs.length = o + a.sz) : a.K w x (cs.drop o) := by
 rwa [List.take_of_length_le (by simp; omega)] at h1
theorem field_of {α : Type} {d : Kd α} {t : TypeId} (hd : Opens d t) (hz : Try.prog.cellsOf t = d.sz) {H : Type} {enc : TypeId × Value → H} {w : World} {base n o : Nat} {cs : List Value} {xs : List (DataW H × List MemPlace)} {i : Nat} (hi : i < xs.length)
  (h : DataW.trod enc Try.prog w base (fun _ => true) true n t ((cs.drop o).take (Try.prog.cellsOf t)) = xs[i]?) : ∃ v, d.K w v ((cs.drop o).take d.sz) := by
 rw [hz, List.getElem?_eq_getElem hi] at h
 exact hd H enc w base n _ _ h
theorem opens_41 : Opens k41 41 := by
 intro H enc w base fuel cs x h
 obtain ⟨xs, n, rfl, rfl, hl, hxl, hf⟩ := DataW.trod_struct Try.underlying41 h
 have hl' : cs.length = 2 := hl.trans (by kernel_rfl)
 have hx : xs.length = 2 := hxl
 obtain ⟨v0, e0⟩ := field_of opens_int (by kernel_rfl) (i := 0) (by omega) (hf 0 _ rfl)
 obtain ⟨v1, e1⟩ := field_of opens_int (by kernel_rfl) (i := 1) (by omega) (hf 1 _ rfl)
 exact ⟨⟨v0, v1⟩, K_pair (o := 0) e0 (K_last (o := 0 + 1) e1 hl')⟩
theorem opens_44 : Opens k44 44 := by
 intro H enc w base fuel cs x h
 obtain ⟨xs, n, rfl, rfl, hl, hxl, hf⟩ := DataW.trod_struct Try.underlying44 h
 have hl' : cs.length = 4 := hl.trans (by kernel_rfl)
 have hx : xs.length = 4 := hxl
 obtain ⟨v0, e0⟩ := field_of opens_int (by kernel_rfl) (i := 0) (by omega) (hf 0 _ rfl)
 obtain ⟨v1, e1⟩ := field_of opens_int (by kernel_rfl) (i := 1) (by omega) (hf 1 _ rfl)
 obtain ⟨v2, e2⟩ := field_of opens_int (by kernel_rfl) (i := 2) (by omega) (hf 2 _ rfl)
 obtain ⟨v3, e3⟩ := field_of opens_int (by kernel_rfl) (i := 3) (by omega) (hf 3 _ rfl)
 exact ⟨⟨v0, v1, v2, v3⟩, K_pair (o := 0) e0 (K_pair (o := 0 + 1) e1 (K_pair (o := 0 + 1 + 1) e2 (K_last (o := 0 + 1 + 1 + 1) e3 hl')))⟩
theorem opens_95 : Opens k95 95 := by
 intro H enc w base fuel cs x h
 obtain ⟨xs, n, rfl, rfl, hl, hxl, hf⟩ := DataW.trod_struct Try.underlying95 h
 have hl' : cs.length = 6 := hl.trans (by kernel_rfl)
 have hx : xs.length = 4 := hxl
 obtain ⟨v0, e0⟩ := field_of opens_int (by kernel_rfl) (i := 0) (by omega) (hf 0 _ rfl)
 obtain ⟨v1, e1⟩ := field_of opens_int (by kernel_rfl) (i := 1) (by omega) (hf 1 _ rfl)
 obtain ⟨v2, e2⟩ := field_of opens_41 (by kernel_rfl) (i := 2) (by omega) (hf 2 _ rfl)
 obtain ⟨v3, e3⟩ := field_of opens_41 (by kernel_rfl) (i := 3) (by omega) (hf 3 _ rfl)
 exact ⟨⟨v0, v1, v2, v3⟩, K_pair (o := 0) e0 (K_pair (o := 0 + 1) e1 (K_pair (o := 0 + 1 + 1) e2 (K_last (o := 0 + 1 + 1 + 2) e3 hl')))⟩
theorem opens_22 : Opens (Kd.slice 44 k44) 22 := opens_slice z44 Try.underlying22 (by kernel_rfl) opens_44
theorem opens_24 : Opens (Kd.slice 41 k41) 24 := opens_slice z41 Try.underlying24 (by kernel_rfl) opens_41
theorem opens_25 : Opens (Kd.slice 95 k95) 25 := opens_slice z95 Try.underlying25 (by kernel_rfl) opens_95
theorem opens_23 : Opens (Kd.slice 3 (Kd.int .i64)) 23 := opens_slice 0 Try.underlying23 (by kernel_rfl) opens_int
def kMap : Kd (Int × List S44 × List Int × List Int × List S41 × List S95) := Kd.pair (Kd.int .i64) (Kd.pair (Kd.slice 44 k44) (Kd.pair (Kd.slice 3 (Kd.int .i64)) (Kd.pair (Kd.slice 3 (Kd.int .i64)) (Kd.pair (Kd.slice 41 k41) (Kd.slice 95 k95)))))
theorem opens_27 : Opens kMap 27 := by
 intro H enc w base fuel cs x h
 obtain ⟨xs, n, rfl, rfl, hl, hxl, hf⟩ := DataW.trod_struct Try.underlying27 h
 have hl' : cs.length = 6 := hl.trans (by kernel_rfl)
 have hx : xs.length = 6 := hxl
 obtain ⟨v0, e0⟩ := field_of opens_int (by kernel_rfl) (i := 0) (by omega) (hf 0 _ rfl)
 obtain ⟨v1, e1⟩ := field_of opens_22 (by kernel_rfl) (i := 1) (by omega) (hf 1 _ rfl)
 obtain ⟨v2, e2⟩ := field_of opens_23 (by kernel_rfl) (i := 2) (by omega) (hf 2 _ rfl)
 obtain ⟨v3, e3⟩ := field_of opens_23 (by kernel_rfl) (i := 3) (by omega) (hf 3 _ rfl)
 obtain ⟨v4, e4⟩ := field_of opens_24 (by kernel_rfl) (i := 4) (by omega) (hf 4 _ rfl)
 obtain ⟨v5, e5⟩ := field_of opens_25 (by kernel_rfl) (i := 5) (by omega) (hf 5 _ rfl)
 exact ⟨(v0, v1, v2, v3, v4, v5), K_pair (o := 0) e0 (K_pair (o := 0 + 1) e1 (K_pair (o := 0 + 1 + 1) e2 (K_pair (o := 0 + 1 + 1 + 1) e3 (K_pair (o := 0 + 1 + 1 + 1 + 1) e4 (K_last (o := 0 + 1 + 1 + 1 + 1 + 1) e5 hl')))))⟩
theorem open_map {H : Type} {enc : TypeId × Value → H} {w : World} {b0 : Nat} {v : Value} {d : DataW H} {p : List MemPlace} (hv : Value.okWide Try.prog w .any b0 27 v) (h : DataW.Trod enc Try.prog w 0 (fun _ => true) true 27 v d p) :
  ∃ (m : Int) (A1 : Option Addr) (c1 : Nat) (l1 : List S44) (A2 : Option Addr) (c2 : Nat) (l2 : List Int) (A3 : Option Addr) (c3 : Nat) (l3 : List Int) (A4 : Option Addr) (c4 : Nat) (l4 : List S41) (A5 : Option Addr) (c5 : Nat) (l5 : List S95), v = .agg #[.int .i64 m, .slice A1 l1.length c1, .slice A2 l2.length c2, .slice A3 l3.length c3, .slice A4 l4.length c4, .slice A5 l5.length c5] ∧
   Kd.C k44 w A1 l1.length l1 ∧ l1.length ≤ c1 ∧ Kd.C (Kd.int .i64) w A2 l2.length l2 ∧ l2.length ≤ c2 ∧ Kd.C (Kd.int .i64) w A3 l3.length l3 ∧ l3.length ≤ c3 ∧ Kd.C k41 w A4 l4.length l4 ∧ l4.length ≤ c4 ∧ Kd.C k95 w A5 l5.length l5 ∧ l5.length ≤ c5 := by
 obtain ⟨cs, rfl, hsz⟩ := WideShapes.okWide_struct Try.underlying27 hv
 obtain ⟨n, hn⟩ := h
 obtain ⟨⟨m, l1, l2, l3, l4, l5⟩, c0, r0, e0, rfl, a1, r1, rfl, ⟨A1, c1, rfl, f1, g1⟩, a2, r2, rfl, ⟨A2, c2, rfl, f2, g2⟩, a3, r3, rfl, ⟨A3, c3, rfl, f3, g3⟩, a4, r4, rfl, ⟨A4, c4, rfl, f4, g4⟩, ⟨A5, c5, rfl, f5, g5⟩⟩ := opens_27 H enc w 0 n _ _ hn
 refine ⟨m, A1, c1, l1, A2, c2, l2, A3, c3, l3, A4, c4, l4, A5, c5, l5, ?_, g1, f1, g2, f2, g3, f3, g4, f4, g5, f5⟩
 have e : cs.toList = [.int .i64 m, .slice A1 l1.length c1, .slice A2 l2.length c2, .slice A3 l3.length c3, .slice A4 l4.length c4, .slice A5 l5.length c5] := by simpa [Value.cells] using e0
 rw [show cs = #[.int .i64 m, .slice A1 l1.length c1, .slice A2 l2.length c2, .slice A3 l3.length c3, .slice A4 l4.length c4, .slice A5 l5.length c5] from Array.toList_inj.1 e]
theorem open_nums {H : Type} {enc : TypeId × Value → H} {w : World} {b0 : Nat} {v : Value} {d : DataW H} {p : List MemPlace} (hv : Value.okWide Try.prog w .any b0 23 v) (h : DataW.Trod enc Try.prog w 0 (fun _ => true) true 23 v d p) :
  ∃ (A : Option Addr) (c : Nat) (l : List Int), v = .slice A l.length c ∧ Kd.C (Kd.int .i64) w A l.length l ∧ l.length ≤ c := by
 obtain ⟨a, len, cap, rfl⟩ := WideShapes.okWide_slice Try.underlying23 hv
 obtain ⟨n, hn⟩ := h
 obtain ⟨l, A, c, e, f, g⟩ := opens_23 H enc w 0 n _ _ hn
 simp [Value.cells] at e
 obtain ⟨rfl, rfl, rfl⟩ := e
 exact ⟨_, _, l, rfl, g, f⟩
end Go.Proofs.Ytafkanmioinbiaa.SA
