/- What functions of the program answer. No condition. -/
import Derived.RangeFuncNested
import Derived.RangeFuncBound
import Derived.RangeFuncCalls
import Derived.RangeFuncLeaves
import Derived.RangeFuncBox
import Derived.Shelf.Abstract
import Derived.Shelf.RegionOpen
import Derived.OwnWalkIn
import Derived.TacticsInMore
import Derived.LoopNIn
import Derived.LoopIn
import Derived.Recover
import Derived.Defers
import Derived.WalkLawsBesides
import Derived.WalkSmall
import Derived.Test.YtafkanmioinbiaaFoB
import Derived.Test.YtafkanmioinbiaaSC
import Derived.Test.YtafkanmioinbiaaSD
import Derived.Test.YtafkanmioinbiaaSI
import Derived.Test.YtafkanmioinbiaaSG
import Derived.Test.YtafkanmioinbiaaSL
import Derived.Test.YtafkanmioinbiaaSM
import Derived.Test.YtafkanmioinbiaaFoA
import Derived.Test.YtafkanmioinbiaaFoC
import Derived.Test.YtafkanmioinbiaaFoD
import Derived.Deep.Slices
import Derived.Lib.SmallJoins
import Derived.ChangeOld
import Derived.ProofKit
set_option linter.all false
set_option maxRecDepth 100000
set_option maxHeartbeats 8000000
namespace Go.Proofs.Ytafkanmioinbiaa.SA
open Go.RowKit Go.Shelf Go.Proofs.YtafkanmioinbiaaW.PrintWords Go.Proofs.YtafkanmioinbiaaW.PrintLast Go.Proofs.YtafkanmioinbiaaW.PrintMore
attribute [local go_sem] qax qaz max_two min_two qao qap qay qba
theorem ar_goes {d : Int} {dyk : List Int} {l1 : List S44} {l4 : List S41} (n y : Nat) (h : dykeV d (n : Int) = dyk.contains (n : Int)) : goesN d l1 l4 n y = if arN dyk l1 l4 n y < l4.length then some (arN dyk l1 l4 n y) else none := by
 have e : goB d l1 l4 n = arB dyk l1 l4 n := by
  funext z
  unfold goB arB
  rw [h]
 have h2 : goesN d l1 l4 n y = ((List.range l4.length).drop y).find? (arB dyk l1 l4 n) := by unfold goesN; rw [e]
 rw [h2]
 unfold arN
 cases hf : ((List.range l4.length).drop y).find? (arB dyk l1 l4 n) with
 | none => simp
 | some z =>
  have := List.mem_of_mem_drop (List.mem_of_find?_eq_some hf)
  simp at this
  simp [this]
theorem arTo_succ (dyk : List Int) (l1 : List S44) (l4 : List S41) (l : List Int) (y k : Nat) (hk : k < l.length) : arTo dyk l1 l4 (l.take (k + 1)) y = arN dyk l1 l4 (rd l k).toNat (arTo dyk l1 l4 (l.take k) y) := by
 unfold arTo
 rw [List.take_succ, List.getElem?_eq_getElem hk, List.foldl_append]
 simp [rd, hk]
def linkB (l1 : List S44) (ws l : List Int) (i : Nat) : Bool := if i = 0 then ws.contains (ldE l1 l i).f0 else decide ((ldE l1 l (i - 1)).f1 = (ldE l1 l i).f0)
theorem ldAt_link {l1 : List S44} {ws l : List Int} {i : Nat} (hr : 0 ≤ rd l i ∧ rd l i < l1.length) : ldAt l1 ws l i = linkB l1 ws l i := by
 unfold ldAt linkB inB
 rw [decide_eq_true hr.1, decide_eq_true (show rd l i ≤ (l1.length : Int) - 1 by omega)]
 rfl
section
variable {l1 : List S44} {ws : List Int} {l4 : List S41} {d : Int} {dyk route : List Int}
theorem ends_iff (hr : ∀ k : Nat, k < route.length → 0 ≤ rd route k ∧ rd route k < l1.length) (hd : ∀ n : Nat, n < l1.length → dykeV d (n : Int) = dyk.contains (n : Int)) (h4 : 0 < l4.length) : ∀ k y, k ≤ route.length → (endsTo d l1 ws l4 route k = some y ↔ (∀ j, j < k → linkB l1 ws route j = true) ∧ y = arTo dyk l1 l4 (route.take k) 0 ∧ y < l4.length)
 | 0, y, _ => by
  unfold endsTo
  constructor
  ·
   intro h
   obtain rfl := Option.some.inj h
   exact ⟨fun j hj => by omega, rfl, h4⟩
  ·
   rintro ⟨_, rfl, _⟩
   rfl
 | k + 1, y, hk => by
  have ih := ends_iff hr hd h4 k
  have hrk := hr k (by omega)
  have hg : ∀ y0, goesN d l1 l4 (rd route k).toNat y0 = if arN dyk l1 l4 (rd route k).toNat y0 < l4.length then some (arN dyk l1 l4 (rd route k).toNat y0) else none := fun y0 => ar_goes _ _ (hd _ (by omega))
  rw [arTo_succ dyk l1 l4 route 0 k (by omega)]
  have hst : ∀ y0, endsStep d l1 ws l4 route k y0 = some y ↔ linkB l1 ws route k = true ∧ y = arN dyk l1 l4 (rd route k).toNat y0 ∧ y < l4.length := by
   intro y0
   unfold endsStep
   rw [hg y0]
   by_cases c : arN dyk l1 l4 (rd route k).toNat y0 < l4.length
   ·
    rw [if_pos c]
    dsimp only
    unfold linkB ldE
    by_cases c0 : k = 0
    ·
     rw [if_pos c0, if_pos c0]
     by_cases c1 : ws.contains (qav l1 (rd route k)).f0 = true
     ·
      rw [if_pos c1]
      constructor
      ·
       intro h
       obtain rfl := Option.some.inj h
       exact ⟨c1, rfl, c⟩
      ·
       rintro ⟨_, rfl, _⟩
       rfl
     ·
      rw [if_neg c1]
      exact ⟨fun h => (by cases h), fun h => absurd h.1 c1⟩
    ·
     rw [if_neg c0, if_neg c0]
     by_cases c1 : (qav l1 (rd route (k - 1 : Nat))).f1 = (qav l1 (rd route k)).f0
     ·
      rw [if_pos c1]
      constructor
      ·
       intro h
       obtain rfl := Option.some.inj h
       exact ⟨decide_eq_true c1, rfl, c⟩
      ·
       rintro ⟨_, rfl, _⟩
       rfl
     ·
      rw [if_neg c1]
      exact ⟨fun h => (by cases h), fun h => absurd (of_decide_eq_true h.1) c1⟩
   ·
    rw [if_neg c]
    exact ⟨fun h => (by cases h), fun h => absurd (h.2.1 ▸ h.2.2) c⟩
  unfold endsTo
  rw [Option.bind_eq_some_iff]
  constructor
  ·
   rintro ⟨y0, h0, h1⟩
   obtain ⟨i1, i2, i3⟩ := (ih y0 (by omega)).1 h0
   obtain ⟨s1, s2, s3⟩ := (hst y0).1 h1
   refine ⟨fun j hj => ?_, by rw [s2, i2], s3⟩
   rcases Nat.lt_or_ge j k with h | h
   ·
    exact i1 j h
   ·
    obtain rfl : j = k := by omega
    exact s1
  ·
   rintro ⟨h1, h2, h3⟩
   have h4' : arTo dyk l1 l4 (route.take k) 0 < l4.length := by
    rcases Nat.lt_or_ge (arTo dyk l1 l4 (route.take k) 0) l4.length with h | h
    ·
     exact h
    ·
     rw [arN_end dyk l1 l4 _ _ h] at h2
     omega
   exact ⟨_, (ih _ (by omega)).2 ⟨fun j hj => h1 j (by omega), rfl, h4'⟩, (hst _).2 ⟨h1 k (by omega), h2, h3⟩⟩
end
def isR (l1 : List S44) (ws : List Int) (l4 : List S41) (dyk l : List Int) (w : Int) : Bool := leadsB l1 ws l w && decide (arrV dyk l1 l4 l < l4.length)
section
variable {p : Int} {l1 : List S44} {l2 l3 : List Int} {l4 : List S41} {l5 : List S95} {routes : List (List Int)} {prices : List Int}
theorem row_edges (hR : badR l1.length routes = false) (n : Nat) (hn : n < routes.length) : edgesB l1 (rd_L4 routes (n : Nat)) = true := by
 unfold badR at hR
 rw [List.any_eq_false] at hR
 have e : rd_L4 routes ((n : Nat) : Int) = routes[n] := by simp [rd_L4, hn]
 rw [e]
 have h1 := hR routes[n] (List.getElem_mem hn)
 unfold edgesB
 rw [List.all_eq_true]
 intro x hx
 cases hq : inB x 0 ((l1.length : Int) - 1) with
 | true => rfl
 | false => exact absurd (List.any_eq_true.2 ⟨x, hx, by rw [hq]; rfl⟩) h1
theorem isroute_eq (dyk l : List Int) (he : edgesB l1 l = true) (w : Int) : talikref07_IsRoute.f p l1 l2 l3 l4 l5 dyk l w = some (isR l1 l2 l4 dyk l w) := by
 unfold talikref07_IsRoute.f isR
 rw [show talikref07_Leads.f p l1 l2 l3 l4 l5 l w = some (leadsB l1 l2 l w) from rfl, Option.bind_some]
 cases leadsB l1 l2 l w with
 | false => rfl
 | true =>
  rw [if_pos rfl, show talikref07_Arrives.f p l1 l2 l3 l4 l5 dyk l = some (arrV dyk l1 l4 l : Int) from by unfold talikref07_Arrives.f; rw [if_pos he], Option.bind_some, Bool.true_and]
  congr 1
  exact decide_eq_decide.2 (by omega)
theorem bad1_eq (hv : validB p l1 l2 l3 l4 l5 = true) (hR : badR l1.length routes = false) (n : Nat) (hn : n < routes.length) : fairBad1 0 l1 l2 l3 l4 routes n = !(l3.any fun w => isR l1 l2 l4 [] (rd_L4 routes (n : Nat)) w) := by
 have hV := valid_facts hv
 have he := row_edges hR n hn
 unfold fairBad1
 obtain ⟨route, hroute⟩ : ∃ r, r = rd_L4 routes (n : Nat) := ⟨_, rfl⟩
 rw [← hroute] at he ⊢
 have hr : ∀ k : Nat, k < route.length → 0 ≤ rd route k ∧ rd route k < l1.length := fun k hk => edgesB_at he k hk
 have hd : ∀ m : Nat, m < l1.length → dykeV 0 (m : Int) = ([] : List Int).contains (m : Int) := fun m hm => by
  have := dyke_bit 0 (by decide) m (by have := hV.n1; omega)
  simpa using this
 have hi := ends_iff (ws := l2) hr hd hV.n4.1 route.length
 rw [List.take_length] at hi
 unfold endsV
 by_cases c : route.length = 0
 ·
  rw [if_pos c]
  dsimp only
  congr 1
  have hnil : route = [] := List.length_eq_zero_iff.1 c
  subst hnil
  have h1 : ∀ w, isR l1 l2 l4 [] [] w = l2.contains w := fun w => by
   unfold isR leadsB
   rw [if_pos (show ([] : List Int).length = 0 from rfl), show arrV [] l1 l4 [] = 0 from rfl, decide_eq_true (show 0 < l4.length from hV.n4.1), Bool.and_true]
  simp only [h1]
  rw [Bool.eq_iff_iff, List.any_eq_true, List.any_eq_true]
  constructor
  ·
   rintro ⟨x, hx, h⟩
   exact ⟨x, by simpa using h, by simpa using hx⟩
  ·
   rintro ⟨x, hx, h⟩
   exact ⟨x, by simpa using h, by simpa using hx⟩
 ·
  rw [if_neg c]
  cases ht : endsTo 0 l1 l2 l4 route route.length with
  | none =>
   have : (l3.any fun w => isR l1 l2 l4 [] route w) = false := by
    rw [List.any_eq_false]
    intro w _ h
    unfold isR at h
    simp only [Bool.and_eq_true, decide_eq_true_eq] at h
    have h2 := h.1
    unfold leadsB at h2
    rw [if_neg c] at h2
    simp only [Bool.and_eq_true, decide_eq_true_eq] at h2
    have := (hi (arrV [] l1 l4 route) (Nat.le_refl _)).2 ⟨fun j hj => by
     have h3 := List.all_eq_true.1 h2.1 j (List.mem_range.2 hj)
     rwa [ldAt_link (hr j hj)] at h3, rfl, h.2⟩
    rw [ht] at this
    cases this
   rw [this]
   rfl
  | some y =>
   obtain ⟨i1, i2, i3⟩ := (hi y (Nat.le_refl _)).1 ht
   dsimp only [Option.map_some]
   congr 1
   have h1 : ∀ w, isR l1 l2 l4 [] route w = decide ((ldE l1 route (route.length - 1)).f1 = w) := fun w => by
    unfold isR leadsB
    rw [if_neg c, range_all_true (fun j hj => by rw [ldAt_link (hr j hj)]; exact i1 j hj), Bool.true_and, show arrV [] l1 l4 route = y from i2.symm, decide_eq_true i3, Bool.and_true]
   simp only [h1]
   rw [Bool.eq_iff_iff, List.any_eq_true, List.any_eq_true]
   constructor
   ·
    rintro ⟨x, hx, h⟩
    have hx' : x = (ldE l1 route (route.length - 1)).f1 := by simpa [ldE] using hx
    subst hx'
    exact ⟨_, by simpa using h, by simp⟩
   ·
    rintro ⟨x, hx, h⟩
    have hx' : (ldE l1 route (route.length - 1)).f1 = x := by simpa using h
    subst hx'
    exact ⟨(ldE l1 route (route.length - 1)).f1, by simp [ldE], by simpa using hx⟩
theorem fair3 (hv : validB p l1 l2 l3 l4 l5 = true) (hl : routes.length ≤ 10) (hlen : routes.length = prices.length) (hb : badP prices = false) (hr : ∀ j : Nat, j < routes.length → (rd_L4 routes (j : Nat)).length ≤ 20) (e : Nat) (he : e < l1.length) (R : Option Bool) (K : Nat) (hK : ∀ k, K ≤ k → talikref07_Fair.l2 k routes prices ((e + 1 : Nat) : Int) p l1 l2 l3 l4 l5 = R) (hK2 : 30 ≤ K) :
  ∀ (m i k : Nat), i + m = routes.length → m + 1 + K ≤ k → talikref07_Fair.l3 k routes prices (e : Int) (allTo routes prices e i) (i : Int) p l1 l2 l3 l4 l5 = if costBad l1 routes prices e = true then some false else R := by
 have hpos : ∀ n : Nat, n < prices.length → 0 ≤ rd prices n ∧ rd prices n ≤ 1000000 := fun n hn => by
  unfold badP at hb
  rw [List.any_eq_false] at hb
  have := hb prices[n] (List.getElem_mem hn)
  unfold inB at this
  simp at this
  have e : rd prices (n : Int) = prices[n] := by simp [rd, hn]
  rw [e]
  exact this
 have bnd : ∀ i, i ≤ routes.length → 0 ≤ allTo routes prices e i ∧ allTo routes prices e i ≤ i * 1000000 := by
  intro i
  induction i with
  | zero => intro _; exact ⟨Int.le_refl _, Int.le_refl _⟩
  | succ i ih =>
   intro hi
   have h := ih (by omega)
   have := hpos i (by omega)
   unfold allTo
   split <;> (push_cast; omega)
 have hc := valid_cost p l1 l2 l3 l4 l5 hv e he
 intro m
 induction m with
 | zero =>
  intro i k hi hk
  obtain ⟨k, rfl⟩ : ∃ m, k = m + 1 := ⟨k - 1, by omega⟩
  obtain rfl : i = routes.length := by omega
  have n1 := (valid_facts hv).n1
  rw [talikref07_Fair.l3]
  rw [if_neg (by omega), if_pos (by omega), if_pos (by omega)]
  unfold costBad
  by_cases c : (qav l1 (e : Int)).f3 ≥ 0
  ·
   rw [if_pos c, decide_eq_false (show ¬ (qav l1 (e : Int)).f3 = -1 by omega)]
   by_cases c2 : allTo routes prices (e : Int) routes.length > (qav l1 (e : Int)).f3
   ·
    rw [if_pos c2, decide_eq_true c2]
    rfl
   ·
    rw [if_neg c2, decide_eq_false c2, wsucc e (by omega), hK k (by omega)]
    rfl
  ·
   rw [if_neg c, decide_eq_true (show (qav l1 (e : Int)).f3 = -1 by omega), wsucc e (by omega), hK k (by omega)]
   rfl
 | succ m ih =>
  intro i k hi hk
  obtain ⟨k, rfl⟩ : ∃ m, k = m + 1 := ⟨k - 1, by omega⟩
  have hil : i < routes.length := by omega
  have hri := hr i hil
  have hb1 := bnd i (by omega)
  have hp1 := hpos i (by omega)
  have hx : allTo routes prices (e : Int) (i + 1) = if (rd_L4 routes (i : Nat)).contains (e : Int) = true then allTo routes prices e i + rd prices (i : Nat) else allTo routes prices e i := rfl
  rw [talikref07_Fair.l3]
  rw [if_pos (by omega), if_pos (by omega)]
  have hhas : talikref07_Has.f k (rd_L4 routes (i : Int)) (e : Int) = some ((rd_L4 routes (i : Int)).contains (e : Int)) := by
   have h0 := ref_Has_eq (rd_L4 routes (i : Int)) (e : Int) (by omega)
   have hup : ∀ d, talikref07_Has.f ((rd_L4 routes (i : Int)).length + 1 + d) (rd_L4 routes (i : Int)) (e : Int) = some ((rd_L4 routes (i : Int)).contains (e : Int)) := by
    intro d
    induction d with
    | zero => exact h0
    | succ d ihd => exact talikref07_Has.mono _ _ _ _ ihd
   have := hup (k - ((rd_L4 routes (i : Int)).length + 1))
   rwa [show (rd_L4 routes (i : Int)).length + 1 + (k - ((rd_L4 routes (i : Int)).length + 1)) = k from by omega] at this
  rw [hhas, Option.bind_some]
  have h2 := ih (i + 1) k (by omega) (by omega)
  by_cases c : (rd_L4 routes (i : Int)).contains (e : Int) = true
  ·
   rw [if_pos c, if_pos (by omega), wsucc i (by omega), show wrap64 (allTo routes prices (e : Int) i + rd prices (i : Int)) = allTo routes prices (e : Int) (i + 1) from by rw [hx, if_pos c]; unfold wrap64; omega]
   exact h2
  ·
   rw [if_neg c, wsucc i (by omega), show allTo routes prices (e : Int) i = allTo routes prices (e : Int) (i + 1) from by rw [hx, if_neg c]]
   exact h2
theorem fair2 (hv : validB p l1 l2 l3 l4 l5 = true) (hl : routes.length ≤ 10) (hlen : routes.length = prices.length) (hb : badP prices = false) (hr : ∀ j : Nat, j < routes.length → (rd_L4 routes (j : Nat)).length ≤ 20) :
  ∀ (m e k : Nat), e + m = l1.length → 13 * m + 31 ≤ k → (∀ j, j < e → costBad l1 routes prices j = false) → talikref07_Fair.l2 k routes prices (e : Int) p l1 l2 l3 l4 l5 = some (!(List.range l1.length).any (costBad l1 routes prices)) := by
 intro m
 induction m with
 | zero =>
  intro e k he hk hp
  obtain ⟨k, rfl⟩ : ∃ m, k = m + 1 := ⟨k - 1, by omega⟩
  rw [talikref07_Fair.l2]
  rw [if_neg (by omega)]
  have : (List.range l1.length).any (costBad l1 routes prices) = false := by
   rw [List.any_eq_false]
   intro j hj
   have := hp j (by have := List.mem_range.1 hj; omega)
   rw [this]
   simp
  rw [this]
  rfl
 | succ m ih =>
  intro e k he hk hp
  obtain ⟨k, rfl⟩ : ∃ m, k = m + 1 := ⟨k - 1, by omega⟩
  rw [talikref07_Fair.l2]
  rw [if_pos (by omega)]
  cases hc : costBad l1 routes prices e with
  | true =>
   have : (List.range l1.length).any (costBad l1 routes prices) = true := List.any_eq_true.2 ⟨e, List.mem_range.2 (by omega), hc⟩
   rw [this]
   have key : ∀ (m i k : Nat), i + m = routes.length → m + 31 ≤ k → talikref07_Fair.l3 k routes prices (e : Int) (allTo routes prices e i) (i : Int) p l1 l2 l3 l4 l5 = some false := by
    have hpos : ∀ n : Nat, n < prices.length → 0 ≤ rd prices n ∧ rd prices n ≤ 1000000 := fun n hn => by
     unfold badP at hb
     rw [List.any_eq_false] at hb
     have := hb prices[n] (List.getElem_mem hn)
     unfold inB at this
     simp at this
     have e : rd prices (n : Int) = prices[n] := by simp [rd, hn]
     rw [e]
     exact this
    have bnd : ∀ i, i ≤ routes.length → 0 ≤ allTo routes prices e i ∧ allTo routes prices e i ≤ i * 1000000 := by
     intro i
     induction i with
     | zero => intro _; exact ⟨Int.le_refl _, Int.le_refl _⟩
     | succ i ih =>
      intro hi
      have h := ih (by omega)
      have := hpos i (by omega)
      unfold allTo
      split <;> (push_cast; omega)
    intro m
    induction m with
    | zero =>
     intro i k hi hk
     obtain ⟨k, rfl⟩ : ∃ m, k = m + 1 := ⟨k - 1, by omega⟩
     obtain rfl : i = routes.length := by omega
     unfold costBad at hc
     simp only [Bool.and_eq_true, Bool.not_eq_true', decide_eq_false_iff_not, decide_eq_true_eq] at hc
     have hcc := valid_cost p l1 l2 l3 l4 l5 hv e (by omega)
     rw [talikref07_Fair.l3]
     rw [if_neg (by omega), if_pos (by omega), if_pos (by omega), if_pos (by omega), if_pos hc.2]
    | succ m ih =>
     intro i k hi hk
     obtain ⟨k, rfl⟩ : ∃ m, k = m + 1 := ⟨k - 1, by omega⟩
     have hil : i < routes.length := by omega
     have hri := hr i hil
     have hb1 := bnd i (by omega)
     have hp1 := hpos i (by omega)
     have hx : allTo routes prices (e : Int) (i + 1) = if (rd_L4 routes (i : Nat)).contains (e : Int) = true then allTo routes prices e i + rd prices (i : Nat) else allTo routes prices e i := rfl
     rw [talikref07_Fair.l3]
     rw [if_pos (by omega), if_pos (by omega)]
     have h0 := ref_Has_eq (rd_L4 routes (i : Int)) (e : Int) (by omega)
     have hup : ∀ d, talikref07_Has.f ((rd_L4 routes (i : Int)).length + 1 + d) (rd_L4 routes (i : Int)) (e : Int) = some ((rd_L4 routes (i : Int)).contains (e : Int)) := by
      intro d
      induction d with
      | zero => exact h0
      | succ d ihd => exact talikref07_Has.mono _ _ _ _ ihd
     have hh := hup (k - ((rd_L4 routes (i : Int)).length + 1))
     rw [show (rd_L4 routes (i : Int)).length + 1 + (k - ((rd_L4 routes (i : Int)).length + 1)) = k from by omega] at hh
     rw [hh, Option.bind_some]
     have h2 := ih (i + 1) k (by omega) (by omega)
     by_cases c : (rd_L4 routes (i : Int)).contains (e : Int) = true
     ·
      rw [if_pos c, if_pos (by omega), wsucc i (by omega), show wrap64 (allTo routes prices (e : Int) i + rd prices (i : Int)) = allTo routes prices (e : Int) (i + 1) from by rw [hx, if_pos c]; unfold wrap64; omega]
      exact h2
     ·
      rw [if_neg c, wsucc i (by omega), show allTo routes prices (e : Int) i = allTo routes prices (e : Int) (i + 1) from by rw [hx, if_neg c]]
      exact h2
   exact key routes.length 0 k (by omega) (by omega)
  | false =>
   have h3 := fair3 hv hl hlen hb hr e (by omega) (some (!(List.range l1.length).any (costBad l1 routes prices))) (13 * m + 31) (fun k' hk' => ih (e + 1) k' (by omega) hk' (fun j hj => by
    rcases Nat.lt_or_ge j e with h | h
    ·
     exact hp j h
    ·
     obtain rfl : j = e := by omega
     exact hc)) (by omega) routes.length 0 k (by omega) (by omega)
   rw [if_neg (by rw [hc]; simp)] at h3
   exact h3
theorem fair1 (hv : validB p l1 l2 l3 l4 l5 = true) (hl : routes.length ≤ 10) (hR : badR l1.length routes = false) (i : Nat) (hi : i < routes.length) (R : Option Bool) (K : Nat) (hK : ∀ k, K ≤ k → talikref07_Fair.l0 k routes prices ((i + 1 : Nat) : Int) p l1 l2 l3 l4 l5 = R) :
  ∀ (m j k : Nat) (b : Bool), j + m = l3.length → m + 1 + K ≤ k → (b = (l3.take j).any fun w => isR l1 l2 l4 [] (rd_L4 routes (i : Nat)) w) → (∀ k, K ≤ k → talikref07_Fair.l0 k routes prices ((i + 1 : Nat) : Int) p l1 l2 l3 l4 l5 = R) →
   talikref07_Fair.l1 k routes prices (i : Int) b (j : Int) p l1 l2 l3 l4 l5 = if (l3.any fun w => isR l1 l2 l4 [] (rd_L4 routes (i : Nat)) w) = true then R else some false := by
 have n3 := (valid_facts hv).n3
 intro m
 induction m with
 | zero =>
  intro j k b hj hk hb _
  obtain ⟨k, rfl⟩ : ∃ m, k = m + 1 := ⟨k - 1, by omega⟩
  rw [List.take_of_length_le (by omega)] at hb
  rw [talikref07_Fair.l1]
  rw [if_neg (by omega), ← hb, wsucc i (by omega), hK k (by omega)]
 | succ m ih =>
  intro j k b hj hk hb hK'
  obtain ⟨k, rfl⟩ : ∃ m, k = m + 1 := ⟨k - 1, by omega⟩
  have hjl : j < l3.length := by omega
  have et : (l3.take (j + 1)).any (fun w => isR l1 l2 l4 [] (rd_L4 routes (i : Nat)) w) = (b || isR l1 l2 l4 [] (rd_L4 routes (i : Nat)) (rd l3 j)) := by
   rw [List.take_succ, List.getElem?_eq_getElem hjl, List.any_append, ← hb]
   simp [rd, hjl]
  rw [talikref07_Fair.l1]
  rw [if_pos (by omega)]
  cases b with
  | true =>
   rw [if_pos rfl, wsucc j (by omega)]
   exact ih (j + 1) k true (by omega) (by omega) (by rw [et]; rfl) hK'
  | false =>
   rw [if_neg (by decide), if_pos (by omega), if_pos (by omega), if_pos (by omega), isroute_eq [] _ (row_edges hR i hi), Option.bind_some, wsucc j (by omega)]
   exact ih (j + 1) k _ (by omega) (by omega) (by rw [et]; rfl) hK'
theorem fair0 (hv : validB p l1 l2 l3 l4 l5 = true) (hl : routes.length ≤ 10) (hlen : routes.length = prices.length) (hb : badP prices = false) (hR : badR l1.length routes = false) (hr : ∀ j : Nat, j < routes.length → (rd_L4 routes (j : Nat)).length ≤ 20) :
  ∀ (m i k : Nat), i + m = routes.length → 13 * m + 200 ≤ k → (∀ j, j < i → fairBad1 0 l1 l2 l3 l4 routes j = false) → talikref07_Fair.l0 k routes prices (i : Int) p l1 l2 l3 l4 l5 = some (decide (fairR 0 l1 l2 l3 l4 routes prices = none)) := by
 have n1 := (valid_facts hv).n1
 have n3 := (valid_facts hv).n3
 intro m
 induction m with
 | zero =>
  intro i k hi hk hp
  obtain ⟨k, rfl⟩ : ∃ m, k = m + 1 := ⟨k - 1, by omega⟩
  rw [talikref07_Fair.l0]
  rw [if_neg (by omega), show talikref07_Fair.l2 k routes prices 0 p l1 l2 l3 l4 l5 = some (!(List.range l1.length).any (costBad l1 routes prices)) from fair2 hv hl hlen hb hr l1.length 0 k (by omega) (by omega) (fun j hj => by omega), fairR_second (fun j hj => hp j (by omega))]
  cases (List.range l1.length).any (costBad l1 routes prices) <;> simp
 | succ m ih =>
  intro i k hi hk hp
  obtain ⟨k, rfl⟩ : ∃ m, k = m + 1 := ⟨k - 1, by omega⟩
  have hil : i < routes.length := by omega
  have hbe := bad1_eq hv hR i hil
  rw [talikref07_Fair.l0]
  rw [if_pos (by omega)]
  cases hc : fairBad1 0 l1 l2 l3 l4 routes i with
  | true =>
   rw [hc] at hbe
   have hno : (l3.any fun w => isR l1 l2 l4 [] (rd_L4 routes (i : Nat)) w) = false := by
    cases hq : (l3.any fun w => isR l1 l2 l4 [] (rd_L4 routes (i : Nat)) w) with
    | false => rfl
    | true => rw [hq] at hbe; cases hbe
   have key : ∀ (m j k : Nat), j + m = l3.length → m + 1 ≤ k → talikref07_Fair.l1 k routes prices (i : Int) false (j : Int) p l1 l2 l3 l4 l5 = some false := by
    intro m
    induction m with
    | zero =>
     intro j k hj hk
     obtain ⟨k, rfl⟩ : ∃ m, k = m + 1 := ⟨k - 1, by omega⟩
     rw [talikref07_Fair.l1]
     rw [if_neg (by omega), if_neg (by decide)]
    | succ m ihm =>
     intro j k hj hk
     obtain ⟨k, rfl⟩ : ∃ m, k = m + 1 := ⟨k - 1, by omega⟩
     have hjl : j < l3.length := by omega
     have hw : isR l1 l2 l4 [] (rd_L4 routes (i : Nat)) (rd l3 j) = false := by
      have := List.any_eq_false.1 hno l3[j] (List.getElem_mem hjl)
      rw [show rd l3 (j : Int) = l3[j] from by simp [rd, hjl]]
      simpa using this
     rw [talikref07_Fair.l1]
     rw [if_pos (by omega), if_neg (by decide), if_pos (by omega), if_pos (by omega), if_pos (by omega), isroute_eq [] _ (row_edges hR i hil), Option.bind_some, hw, wsucc j (by omega)]
     exact ihm (j + 1) k (by omega) (by omega)
   rw [fairR_first i hil hp hc]
   exact key l3.length 0 k (by omega) (by omega)
  | false =>
   rw [hc] at hbe
   have hyes : (l3.any fun w => isR l1 l2 l4 [] (rd_L4 routes (i : Nat)) w) = true := by
    cases hq : (l3.any fun w => isR l1 l2 l4 [] (rd_L4 routes (i : Nat)) w) with
    | true => rfl
    | false => rw [hq] at hbe; cases hbe
   have hK : ∀ k, 13 * m + 200 ≤ k → talikref07_Fair.l0 k routes prices ((i + 1 : Nat) : Int) p l1 l2 l3 l4 l5 = some (decide (fairR 0 l1 l2 l3 l4 routes prices = none)) := fun k' hk' => ih (i + 1) k' (by omega) hk' (fun j hj => by
    rcases Nat.lt_or_ge j i with h | h
    ·
     exact hp j h
    ·
     obtain rfl : j = i := by omega
     exact hc)
   have h1 := fair1 (prices := prices) hv hl hR i hil _ (13 * m + 200) hK l3.length 0 k false (by omega) (by omega) (by simp) hK
   rw [if_pos hyes] at h1
   exact h1
theorem fair_eq (hv : validB p l1 l2 l3 l4 l5 = true) (hl : routes.length ≤ 10) (hlen : routes.length = prices.length) (hb : badP prices = false) (hR : badR l1.length routes = false) (hr : ∀ j : Nat, j < routes.length → (rd_L4 routes (j : Nat)).length ≤ 20) (k : Nat) (hk : 400 ≤ k) : talikref07_Fair.f k p l1 l2 l3 l4 l5 routes prices = some (decide (fairR 0 l1 l2 l3 l4 routes prices = none)) :=
 fair0 hv hl hlen hb hR hr routes.length 0 k (by omega) (by omega) (fun j hj => by omega)
theorem ref_sum_go (l : List Int) (h : ∀ k : Nat, k < l.length → 0 ≤ rd l k ∧ rd l k ≤ 1000000) (hl : l.length ≤ 1000) : ∀ (m i k : Nat), i + m = l.length → m + 1 ≤ k → talikref07_Sum.l0 k l (l.take i).sum (i : Int) = some l.sum := by
 have hb : ∀ i : Nat, i ≤ l.length → 0 ≤ (l.take i).sum ∧ (l.take i).sum ≤ i * 1000000 := by
  intro i
  induction i with
  | zero => intro _; simp
  | succ i ih =>
   intro hi
   have h1 := ih (by omega)
   have h2 := h i (by omega)
   have e : rd l (i : Int) = l[i] := by simp [rd, show i < l.length by omega]
   rw [e] at h2
   rw [List.take_succ, List.getElem?_eq_getElem (show i < l.length by omega)]
   simp only [Option.toList_some, List.sum_append, List.sum_cons, List.sum_nil]
   push_cast
   omega
 intro m
 induction m with
 | zero =>
  intro i k hi hk
  obtain ⟨k, rfl⟩ : ∃ m, k = m + 1 := ⟨k - 1, by omega⟩
  rw [talikref07_Sum.l0]
  rw [if_neg (by omega), List.take_of_length_le (by omega)]
 | succ m ih =>
  intro i k hi hk
  obtain ⟨k, rfl⟩ : ∃ m, k = m + 1 := ⟨k - 1, by omega⟩
  have hil : i < l.length := by omega
  have h1 := hb i (by omega)
  have h2 := h i (by omega)
  have e : (l.take (i + 1)).sum = (l.take i).sum + rd l (i : Int) := by
   rw [List.take_succ, List.getElem?_eq_getElem hil, List.sum_append]
   simp [rd, hil]
  rw [talikref07_Sum.l0]
  rw [if_pos (by omega), if_pos (by omega), wsucc i (by omega), show wrap64 ((l.take i).sum + rd l (i : Int)) = (l.take (i + 1)).sum from by rw [e]; unfold wrap64; omega]
  exact ih (i + 1) k (by omega) (by omega)
end
theorem floors_true (q : Nat) (hq : 499 ≤ q) (p : Int) (l1 : List S44) (l2 l3 : List Int) (l4 : List S41) (l5 : List S95) (routes : List (List Int)) (prices : List Int) : taliklaw07_SeepFloors.f (q + 1) p l1 l2 l3 l4 l5 routes prices = some true := by
 obtain ⟨q, rfl⟩ : ∃ r, q = r + 2 := ⟨q - 2, by omega⟩
 unfold taliklaw07_SeepFloors.f
 rw [short_eq]
 simp only [Option.bind_some]
 have hknown : taliklaw07_SeepFloors.j0 (q + 2 + 1) routes prices true p l1 l2 l3 l4 l5 = some true := by
  rw [taliklaw07_SeepFloors.j0]
  rw [if_pos rfl, known_some]
  rfl
 cases hs : shortB l1 l2 l3 l4 l5 with
 | false => rw [if_neg (by simp)]; exact hknown
 | true =>
  rw [if_pos rfl, brief_eq routes _ (by omega)]
  simp only [Option.bind_some]
  cases hbr : briefB routes with
  | false => rw [if_neg (by decide)]; exact hknown
  | true =>
   obtain ⟨b1, b2⟩ := brief_of hbr
   rw [if_pos rfl]
   by_cases c1 : (prices.length : Int) > 15
   ·
    rw [decide_eq_true c1]; exact hknown
   ·
    rw [decide_eq_false c1, taliklaw07_SeepFloors.j0]
    rw [if_neg (by decide), priced_eq p l1 l2 l3 l4 l5 routes prices b2 _ (by omega)]
    have hj2 : ∀ e, e ≠ 0 → taliklaw07_SeepFloors.j2 (q + 1) prices 0 e e = some true := fun e he => by
     rw [taliklaw07_SeepFloors.j2]
     rw [if_neg he, if_pos rfl, if_pos rfl, known_some]
     rfl
    by_cases c3 : pricedV p l1 l2 l3 l4 l5 routes prices = 0
    ·
     obtain ⟨hfl, hv, hlen, hbp, hbR⟩ := floor_ok p l1 l2 l3 l4 l5 routes prices b2 c3
     have hl10 : routes.length ≤ 10 := by
      unfold pricedV at c3
      by_cases c : 10 < routes.length ∨ 10 < prices.length
      ·
       rw [if_pos c] at c3; cases c3
      ·
       omega
     rw [hfl, Option.bind_some, Option.bind_some, if_pos c3, fair_eq hv hl10 hlen hbp hbR b2 _ (by omega), Option.bind_some, c3]
     cases hf : fairR 0 l1 l2 l3 l4 routes prices with
     | some n =>
      rw [show (!decide ((some n : Option Int) = none)) = true from by simp, taliklaw07_SeepFloors.j1]
      rw [if_pos rfl]
      exact hj2 7 (by decide)
     | none =>
      rw [show (!decide ((none : Option Int) = none)) = false from by simp, taliklaw07_SeepFloors.j1]
      rw [if_neg (by decide), taliklaw07_SeepFloors.j2]
      have hpos : ∀ n : Nat, n < prices.length → 0 ≤ rd prices n ∧ rd prices n ≤ 1000000 := fun n hn => by
       unfold badP at hbp
       rw [List.any_eq_false] at hbp
       have := hbp prices[n] (List.getElem_mem hn)
       unfold inB at this
       simp at this
       have e : rd prices (n : Int) = prices[n] := by simp [rd, hn]
       rw [e]
       exact this
      rw [if_pos rfl, show (floorF prices none).2 = 0 from rfl, if_pos rfl, show talikref07_Sum.f q prices = some prices.sum from ref_sum_go prices hpos (by omega) prices.length 0 q (by omega) (by omega), Option.bind_some, show (floorF prices none).1 = prices.sum from rfl, if_pos rfl, known_some]
      rfl
    ·
     have hfl : seep_Floor.f p l1 l2 l3 l4 l5 routes prices = some (0, pricedV p l1 l2 l3 l4 l5 routes prices) := by
      unfold seep_Floor.f floorV
      unfold pricedV at c3 ⊢
      by_cases k1 : 10 < routes.length ∨ 10 < prices.length
      ·
       rw [if_pos k1, if_pos k1]
      ·
       rw [if_neg k1] at c3 ⊢
       rw [if_neg k1]
       by_cases k2 : validB p l1 l2 l3 l4 l5 = true
       ·
        rw [if_pos k2] at c3 ⊢
        rw [if_pos (given_nil p l1 l2 l3 l4 l5 k2)]
        by_cases k3 : routes.length = prices.length
        ·
         rw [if_pos k3] at c3 ⊢
         rw [if_pos k3]
         by_cases k5 : badP prices = true
         ·
          rw [if_pos k5]
          by_cases k4 : badR l1.length routes = true
          ·
           rw [if_pos k4]
          ·
           rw [if_neg k4, if_pos k5]
         ·
          rw [if_neg k5]
          by_cases k4 : badR l1.length routes = true
          ·
           rw [if_pos k4, if_pos k4]
          ·
           rw [if_neg k4, if_neg k5] at c3
           exact absurd rfl c3
        ·
         rw [if_neg k3, if_neg k3]
       ·
        rw [if_neg k2, if_neg (fun h => k2 (given_valid h))]
     rw [hfl, Option.bind_some, Option.bind_some, if_neg c3, taliklaw07_SeepFloors.j1]
     rw [if_neg (by decide)]
     exact hj2 _ c3
def Opens {α : Type} (d : Kd α) (t : TypeId) : Prop := ∀ (H : Type) (enc : TypeId × Value → H) (w : World) (base fuel : Nat) (cs : List Value) (x : DataW H × List MemPlace), DataW.trod enc Try.prog w base (fun _ => true) true fuel t cs = some x → ∃ v, d.K w v cs
theorem opens_int : Opens (Kd.int .i64) 3 := by
 intro H enc w base fuel cs x h
 obtain ⟨n, rfl, _, _⟩ := DataW.trod_int Try.underlying3 h
 exact ⟨n, rfl⟩
theorem cell_of_cells {w : World} {base n : Nat} {a : Addr} {cs : List Value} (h : w.cells? base a n = some cs) : cs.length = n ∧ ∀ i u, cs[i]? = some u → w.cell? (a.add i) = some u := by
 unfold World.cells? at h
 split at h
 ·
  refine ⟨by simpa using mapM_some_length h, fun i u hu => ?_⟩
  have hi : i < n := by
   have h1 := mapM_some_length h
   have h2 := (List.getElem?_eq_some_iff.1 hu).1
   simp at h1
   omega
  have h3 := mapM_some_get h i i (by simp [hi])
  rw [h3]
  exact hu
 ·
  cases h
theorem opens_slice {α : Type} {d : Kd α} {t e : TypeId} (z : α) (ht : Try.prog.underlying t = some (.slice e)) (hz : Try.prog.cellsOf e = d.sz) (hd : Opens d e) : Opens (Kd.slice e d) t := by
 intro H enc w base fuel cs x h
 rcases Deep.open_slice ht h with ⟨rfl, _⟩ | ⟨a, len, cap, m, n, D, Pl, rfl, hb, hl, hm, hmm, _, hel⟩
 ·
  exact ⟨[], none, 0, rfl, Nat.le_refl _, rfl, by simp, fun h => absurd h (by simp)⟩
 ·
  simp only [if_true] at hmm
  subst hmm
  haveI : Inhabited (α × List Value) := ⟨(z, [])⟩
  obtain ⟨F, hF⟩ : ∃ F : Nat → α × List Value, ∀ i, i < len → w.cells? base (a.add (i * Try.prog.cellsOf e)) (Try.prog.cellsOf e) = some (F i).2 ∧ d.K w (F i).1 (F i).2 := by
   have hx : ∀ i, i < len → ∃ q : α × List Value, w.cells? base (a.add (i * Try.prog.cellsOf e)) (Try.prog.cellsOf e) = some q.2 ∧ d.K w q.1 q.2 := fun i hi => by
    obtain ⟨cs', h1, h2⟩ := hel i (by omega)
    obtain ⟨v, hv⟩ := hd H enc w base n cs' _ h2
    exact ⟨(v, cs'), h1, hv⟩
   exact Deep.choose_lt hx
  have hlen : ((List.range len).map fun i => (F i).1).length = len := by simp
  refine ⟨(List.range len).map fun i => (F i).1, some a, m, by rw [hlen], by rw [hlen]; exact hl, rfl, ?_, fun _ => ⟨a, rfl, fun j p hj => ?_⟩⟩
  ·
   rw [hlen]
   have : maxLen ≤ 9223372036854775807 := by decide
   omega
  ·
   obtain ⟨hj1, hj2⟩ := List.getElem?_eq_some_iff.1 hj
   have hjl : j < len := by simpa using hj1
   have hp : p = (F j).1 := by simpa using hj2.symm
   subst hp
   obtain ⟨h1, h2⟩ := hF j hjl
   refine ⟨(F j).2, d.K_len h2, h2, fun i u hu => ?_⟩
   have h3 := (cell_of_cells h1).2 i u hu
   rw [Deep.add_add, hz] at h3
   exact h3
theorem K_pair {α β : Type} {a : Kd α} {b : Kd β} {w : World} {cs : List Value} {o : Nat} {x : α} {y : β} (h1 : a.K w x ((cs.drop o).take a.sz)) (h2 : b.K w y (cs.drop (o + a.sz))) : (Kd.pair a b).K w (x, y) (cs.drop o) :=
 ⟨_, _, by have h := (List.take_append_drop a.sz (cs.drop o)).symm; rwa [List.drop_drop] at h, h1, h2⟩
theorem K_last {α : Type} {a : Kd α} {w : World} {cs : List Value} {o : Nat} {x : α} (h1 : a.K w x ((cs.drop o).take a.sz)) (hl : cs.length = o + a.sz) : a.K w x (cs.drop o) := by
 rwa [List.take_of_length_le (by simp; omega)] at h1
theorem field_of {α : Type} {d : Kd α} {t : TypeId} (hd : Opens d t) (hz : Try.prog.cellsOf t = d.sz) {H : Type} {enc : TypeId × Value → H} {w : World} {base n o : Nat} {cs : List Value} {xs : List (DataW H × List MemPlace)} {i : Nat} (hi : i < xs.length)
  (h : DataW.trod enc Try.prog w base (fun _ => true) true n t ((cs.drop o).take (Try.prog.cellsOf t)) = xs[i]?) : ∃ v, d.K w v ((cs.drop o).take d.sz) := by
 rw [hz, List.getElem?_eq_getElem hi] at h
 exact hd H enc w base n _ _ h
theorem opens_41 : Opens k41 41 := by
 intro H enc w base fuel cs x h
 obtain ⟨xs, n, rfl, rfl, hl, hxl, hf⟩ := DataW.trod_struct Try.underlying41 h
 have hl' : cs.length = 2 := hl.trans (by kernel_rfl)
 have hx : xs.length = 2 := hxl
 obtain ⟨v0, e0⟩ := field_of opens_int (by kernel_rfl) (i := 0) (by omega) (hf 0 _ rfl)
 obtain ⟨v1, e1⟩ := field_of opens_int (by kernel_rfl) (i := 1) (by omega) (hf 1 _ rfl)
 exact ⟨⟨v0, v1⟩, K_pair (o := 0) e0 (K_last (o := 0 + 1) e1 hl')⟩
theorem opens_44 : Opens k44 44 := by
 intro H enc w base fuel cs x h
 obtain ⟨xs, n, rfl, rfl, hl, hxl, hf⟩ := DataW.trod_struct Try.underlying44 h
 have hl' : cs.length = 4 := hl.trans (by kernel_rfl)
 have hx : xs.length = 4 := hxl
 obtain ⟨v0, e0⟩ := field_of opens_int (by kernel_rfl) (i := 0) (by omega) (hf 0 _ rfl)
 obtain ⟨v1, e1⟩ := field_of opens_int (by kernel_rfl) (i := 1) (by omega) (hf 1 _ rfl)
 obtain ⟨v2, e2⟩ := field_of opens_int (by kernel_rfl) (i := 2) (by omega) (hf 2 _ rfl)
 obtain ⟨v3, e3⟩ := field_of opens_int (by kernel_rfl) (i := 3) (by omega) (hf 3 _ rfl)
 exact ⟨⟨v0, v1, v2, v3⟩, K_pair (o := 0) e0 (K_pair (o := 0 + 1) e1 (K_pair (o := 0 + 1 + 1) e2 (K_last (o := 0 + 1 + 1 + 1) e3 hl')))⟩
theorem opens_95 : Opens k95 95 := by
 intro H enc w base fuel cs x h
 obtain ⟨xs, n, rfl, rfl, hl, hxl, hf⟩ := DataW.trod_struct Try.underlying95 h
 have hl' : cs.length = 6 := hl.trans (by kernel_rfl)
 have hx : xs.length = 4 := hxl
 obtain ⟨v0, e0⟩ := field_of opens_int (by kernel_rfl) (i := 0) (by omega) (hf 0 _ rfl)
 obtain ⟨v1, e1⟩ := field_of opens_int (by kernel_rfl) (i := 1) (by omega) (hf 1 _ rfl)
 obtain ⟨v2, e2⟩ := field_of opens_41 (by kernel_rfl) (i := 2) (by omega) (hf 2 _ rfl)
 obtain ⟨v3, e3⟩ := field_of opens_41 (by kernel_rfl) (i := 3) (by omega) (hf 3 _ rfl)
 exact ⟨⟨v0, v1, v2, v3⟩, K_pair (o := 0) e0 (K_pair (o := 0 + 1) e1 (K_pair (o := 0 + 1 + 1) e2 (K_last (o := 0 + 1 + 1 + 2) e3 hl')))⟩
theorem opens_22 : Opens (Kd.slice 44 k44) 22 := opens_slice z44 Try.underlying22 (by kernel_rfl) opens_44
theorem opens_24 : Opens (Kd.slice 41 k41) 24 := opens_slice z41 Try.underlying24 (by kernel_rfl) opens_41
theorem opens_25 : Opens (Kd.slice 95 k95) 25 := opens_slice z95 Try.underlying25 (by kernel_rfl) opens_95
theorem opens_23 : Opens (Kd.slice 3 (Kd.int .i64)) 23 := opens_slice 0 Try.underlying23 (by kernel_rfl) opens_int
theorem opens_58 : Opens (Kd.slice 23 (Kd.slice 3 (Kd.int .i64))) 58 := opens_slice [] Try.underlying58 (by kernel_rfl) opens_23
def kMap : Kd (Int × List S44 × List Int × List Int × List S41 × List S95) := Kd.pair (Kd.int .i64) (Kd.pair (Kd.slice 44 k44) (Kd.pair (Kd.slice 3 (Kd.int .i64)) (Kd.pair (Kd.slice 3 (Kd.int .i64)) (Kd.pair (Kd.slice 41 k41) (Kd.slice 95 k95)))))
theorem opens_27 : Opens kMap 27 := by
 intro H enc w base fuel cs x h
 obtain ⟨xs, n, rfl, rfl, hl, hxl, hf⟩ := DataW.trod_struct Try.underlying27 h
 have hl' : cs.length = 6 := hl.trans (by kernel_rfl)
 have hx : xs.length = 6 := hxl
 obtain ⟨v0, e0⟩ := field_of opens_int (by kernel_rfl) (i := 0) (by omega) (hf 0 _ rfl)
 obtain ⟨v1, e1⟩ := field_of opens_22 (by kernel_rfl) (i := 1) (by omega) (hf 1 _ rfl)
 obtain ⟨v2, e2⟩ := field_of opens_23 (by kernel_rfl) (i := 2) (by omega) (hf 2 _ rfl)
 obtain ⟨v3, e3⟩ := field_of opens_23 (by kernel_rfl) (i := 3) (by omega) (hf 3 _ rfl)
 obtain ⟨v4, e4⟩ := field_of opens_24 (by kernel_rfl) (i := 4) (by omega) (hf 4 _ rfl)
 obtain ⟨v5, e5⟩ := field_of opens_25 (by kernel_rfl) (i := 5) (by omega) (hf 5 _ rfl)
 exact ⟨(v0, v1, v2, v3, v4, v5), K_pair (o := 0) e0 (K_pair (o := 0 + 1) e1 (K_pair (o := 0 + 1 + 1) e2 (K_pair (o := 0 + 1 + 1 + 1) e3 (K_pair (o := 0 + 1 + 1 + 1 + 1) e4 (K_last (o := 0 + 1 + 1 + 1 + 1 + 1) e5 hl')))))⟩
theorem open_map {H : Type} {enc : TypeId × Value → H} {w : World} {b0 : Nat} {v : Value} {d : DataW H} {p : List MemPlace} (hv : Value.okWide Try.prog w .any b0 27 v) (h : DataW.Trod enc Try.prog w 0 (fun _ => true) true 27 v d p) :
  ∃ (m : Int) (A1 : Option Addr) (c1 : Nat) (l1 : List S44) (A2 : Option Addr) (c2 : Nat) (l2 : List Int) (A3 : Option Addr) (c3 : Nat) (l3 : List Int) (A4 : Option Addr) (c4 : Nat) (l4 : List S41) (A5 : Option Addr) (c5 : Nat) (l5 : List S95), v = .agg #[.int .i64 m, .slice A1 l1.length c1, .slice A2 l2.length c2, .slice A3 l3.length c3, .slice A4 l4.length c4, .slice A5 l5.length c5] ∧
   Kd.C k44 w A1 l1.length l1 ∧ l1.length ≤ c1 ∧ Kd.C (Kd.int .i64) w A2 l2.length l2 ∧ l2.length ≤ c2 ∧ Kd.C (Kd.int .i64) w A3 l3.length l3 ∧ l3.length ≤ c3 ∧ Kd.C k41 w A4 l4.length l4 ∧ l4.length ≤ c4 ∧ Kd.C k95 w A5 l5.length l5 ∧ l5.length ≤ c5 := by
 obtain ⟨cs, rfl, hsz⟩ := WideShapes.okWide_struct Try.underlying27 hv
 obtain ⟨n, hn⟩ := h
 obtain ⟨⟨m, l1, l2, l3, l4, l5⟩, c0, r0, e0, rfl, a1, r1, rfl, ⟨A1, c1, rfl, f1, g1⟩, a2, r2, rfl, ⟨A2, c2, rfl, f2, g2⟩, a3, r3, rfl, ⟨A3, c3, rfl, f3, g3⟩, a4, r4, rfl, ⟨A4, c4, rfl, f4, g4⟩, ⟨A5, c5, rfl, f5, g5⟩⟩ := opens_27 H enc w 0 n _ _ hn
 refine ⟨m, A1, c1, l1, A2, c2, l2, A3, c3, l3, A4, c4, l4, A5, c5, l5, ?_, g1, f1, g2, f2, g3, f3, g4, f4, g5, f5⟩
 have e : cs.toList = [.int .i64 m, .slice A1 l1.length c1, .slice A2 l2.length c2, .slice A3 l3.length c3, .slice A4 l4.length c4, .slice A5 l5.length c5] := by simpa [Value.cells] using e0
 rw [show cs = #[.int .i64 m, .slice A1 l1.length c1, .slice A2 l2.length c2, .slice A3 l3.length c3, .slice A4 l4.length c4, .slice A5 l5.length c5] from Array.toList_inj.1 e]
theorem open_nums {H : Type} {enc : TypeId × Value → H} {w : World} {b0 : Nat} {v : Value} {d : DataW H} {p : List MemPlace} (hv : Value.okWide Try.prog w .any b0 23 v) (h : DataW.Trod enc Try.prog w 0 (fun _ => true) true 23 v d p) :
  ∃ (A : Option Addr) (c : Nat) (l : List Int), v = .slice A l.length c ∧ Kd.C (Kd.int .i64) w A l.length l ∧ l.length ≤ c := by
 obtain ⟨a, len, cap, rfl⟩ := WideShapes.okWide_slice Try.underlying23 hv
 obtain ⟨n, hn⟩ := h
 obtain ⟨l, A, c, e, f, g⟩ := opens_23 H enc w 0 n _ _ hn
 simp [Value.cells] at e
 obtain ⟨rfl, rfl, rfl⟩ := e
 exact ⟨_, _, l, rfl, g, f⟩
theorem open_rows {H : Type} {enc : TypeId × Value → H} {w : World} {b0 : Nat} {v : Value} {d : DataW H} {p : List MemPlace} (hv : Value.okWide Try.prog w .any b0 58 v) (h : DataW.Trod enc Try.prog w 0 (fun _ => true) true 58 v d p) :
  ∃ (A : Option Addr) (c : Nat) (l : List (List Int)), v = .slice A l.length c ∧ Kd.C (Kd.slice 3 (Kd.int .i64)) w A l.length l ∧ l.length ≤ c := by
 obtain ⟨a, len, cap, rfl⟩ := WideShapes.okWide_slice Try.underlying58 hv
 obtain ⟨n, hn⟩ := h
 obtain ⟨l, A, c, e, f, g⟩ := opens_58 H enc w 0 n _ _ hn
 simp [Value.cells] at e
 obtain ⟨rfl, rfl, rfl⟩ := e
 exact ⟨_, _, l, rfl, g, f⟩
end Go.Proofs.Ytafkanmioinbiaa.SA
