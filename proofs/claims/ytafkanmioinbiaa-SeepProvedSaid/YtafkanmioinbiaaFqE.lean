/- What functions of the program answer. No condition. -/
import Derived.RangeFuncNested
import Derived.RangeFuncBound
import Derived.RangeFuncCalls
import Derived.RangeFuncLeaves
import Derived.RangeFuncBox
import Derived.Shelf.Abstract
import Derived.Shelf.RegionOpen
import Derived.OwnWalkIn
import Derived.TacticsInMore
import Derived.LoopNIn
import Derived.LoopIn
import Derived.Recover
import Derived.Defers
import Derived.WalkLawsBesides
import Derived.WalkSmall
import Derived.Test.YtafkanmioinbiaaFqC
import Derived.Test.YtafkanmioinbiaaSC
import Derived.Test.YtafkanmioinbiaaSD
import Derived.Test.YtafkanmioinbiaaSI
import Derived.Test.YtafkanmioinbiaaSG
import Derived.Test.YtafkanmioinbiaaSJ
import Derived.Test.YtafkanmioinbiaaSK
import Derived.Test.YtafkanmioinbiaaSL
import Derived.Test.YtafkanmioinbiaaSM
import Derived.Test.YtafkanmioinbiaaFqA
import Derived.Test.YtafkanmioinbiaaFqB
import Derived.Test.YtafkanmioinbiaaFqD
import Derived.Deep.Slices
import Derived.Lib.SmallJoins
import Derived.ChangeOld
import Derived.ProofKit
set_option linter.all false
set_option maxRecDepth 100000
set_option maxHeartbeats 8000000
namespace Go.Proofs.Ytafkanmioinbiaa.SA
open Go.RowKit Go.Shelf Go.Proofs.YtafkanmioinbiaaW.PrintWords Go.Proofs.YtafkanmioinbiaaW.PrintLast Go.Proofs.YtafkanmioinbiaaW.PrintMore
attribute [local go_sem] qbc qbe max_two min_two qaz qba qbd qbf
theorem goesN_spec {d : Int} {es : List S44} {l4 : List S41} {n year y : Nat} (h : goesN d es l4 n year = some y) : y < l4.length ∧ year ≤ y ∧ dykeV d n = false ∧ (qax es n).f2 ≤ (rd_T41 l4 y).f1 := by
 have h1 := goesN_lt _ _ _ _ _ _ h
 unfold goesN at h
 have h2 := List.find?_some h
 unfold goB at h2
 simp only [Bool.and_eq_true, Bool.not_eq_true', decide_eq_true_eq] at h2
 exact ⟨h1.1, h1.2, h2.1, h2.2⟩
section
variable {p : Int} {l1 : List S44} {l2 l3 : List Int} {l4 : List S41} {l5 : List S95} {l : List Int}
theorem ends_foul {d : Int} {route : List Int} (hr : ∀ k : Nat, k < route.length → 0 ≤ rd route k ∧ rd route k < l1.length) (dk : Nat → Bool) (hd : ∀ k : Nat, k < route.length → dk (rd route k).toNat = false) : ∀ (k y : Nat), k ≤ route.length → endsTo d l1 l2 l4 route k = some y → (k = 0 ∧ y = 0) ∨ (0 < k ∧ y < l4.length ∧ Fl l1 l2 dk (l4.map (·.f1)) y (qax l1 (rd route (k - 1 : Nat))).f1)
 | 0, y, _, h => .inl ⟨rfl, by unfold endsTo at h; exact (Option.some.inj h).symm⟩
 | k + 1, y, hk, h => by
  right
  unfold endsTo at h
  obtain ⟨y0, h0, h1⟩ := Option.bind_eq_some_iff.mp h
  have ih := ends_foul hr dk hd k y0 (by omega) h0
  have hrk := hr k (by omega)
  have hdk := hd k (by omega)
  unfold endsStep at h1
  cases hg : goesN d l1 l4 (rd route k).toNat y0 with
  | none => rw [hg] at h1; cases h1
  | some z =>
   rw [hg] at h1
   dsimp only at h1
   obtain ⟨g1, g2, _, g4⟩ := goesN_spec hg
   have ee : (((rd route (k : Int)).toNat : Nat) : Int) = rd route k := by omega
   rw [ee] at g4
   have hop : ∀ t, t = z → opE l1 dk (l4.map (·.f1)) t (rd route k).toNat := fun t ht => by
    subst ht
    refine ⟨by omega, hdk, ?_⟩
    rw [ee, rd_map1 l4 t g1]
    exact g4
   have hedge : ∀ t, t = z → Fl l1 l2 dk (l4.map (·.f1)) t (qax l1 (rd route k)).f0 → Fl l1 l2 dk (l4.map (·.f1)) t (qax l1 (rd route k)).f1 := fun t ht hf => by
    have := Fl.edge (hop t ht) (by rw [ee]; exact hf)
    rwa [ee] at this
   have hlat : ∀ (a b : Nat) (x : Int), a ≤ b → Fl l1 l2 dk (l4.map (·.f1)) a x → Fl l1 l2 dk (l4.map (·.f1)) b x := by
    intro a b x hab hf
    induction b with
    | zero =>
     obtain rfl : a = 0 := by omega
     exact hf
    | succ b ihb =>
     rcases Nat.lt_or_ge a (b + 1) with hlt | hge
     ·
      exact .later (ihb (by omega))
     ·
      obtain rfl : a = b + 1 := by omega
      exact hf
   refine ⟨by omega, ?_⟩
   rw [show k + 1 - 1 = k from by omega]
   by_cases c : k = 0
   ·
    rw [if_pos c] at h1
    by_cases c2 : l2.contains (qax l1 (rd route k)).f0 = true
    ·
     rw [if_pos c2] at h1
     obtain rfl := Option.some.inj h1
     exact ⟨g1, hedge _ rfl (.waste (by simpa using c2))⟩
    ·
     rw [if_neg c2] at h1
     cases h1
   ·
    rw [if_neg c] at h1
    by_cases c2 : (qax l1 (rd route (k - 1 : Nat))).f1 = (qax l1 (rd route k)).f0
    ·
     rw [if_pos c2] at h1
     obtain rfl := Option.some.inj h1
     rcases ih with ih | ih
     ·
      omega
     ·
      refine ⟨g1, hedge _ rfl ?_⟩
      rw [← c2]
      exact hlat _ _ _ g2 ih.2.2
    ·
     rw [if_neg c2] at h1
     cases h1
theorem keeps_not_foul (hg : givenB p l1 l2 l3 l4 l5 l = true) (hk : keepsB p l1 l2 l3 l4 (maskV l) = true) (x : Int) (hx : x ∈ l3) (y : Nat) (hy : y < l4.length) : ¬ Fl l1 l2 (fun i => l.contains (i : Int)) (l4.map (·.f1)) y x := by
 intro hf
 have hF := foul_isF hg (l4.map (·.f1))
 rw [List.length_map] at hF
 have hw := (valid_facts (given_valid hg)).w3 x hx
 have h1 := (hF.iff x hw.1 (by omega) y hy).2 hf
 unfold keepsB at hk
 rw [Bool.not_eq_true', List.any_eq_false] at hk
 have h2 := hk x hx
 simp at h2
 omega
theorem sum_le (f g : Int → Int) : ∀ l : List Int, (∀ x ∈ l, f x ≤ g x) → (l.map f).sum ≤ (l.map g).sum
 | [], _ => by simp
 | x :: t, h => by
  have h1 := h x (by simp)
  have h2 := sum_le f g t (fun y hy => h y (by simp [hy]))
  simp only [List.map_cons, List.sum_cons]
  omega
theorem all_step (routes : List (List Int)) (prices : List Int) (n : Nat) (hp : 0 ≤ rd prices n) : ∀ l : List Int, (l.map fun e => allTo routes prices e n).sum ≤ (l.map fun e => allTo routes prices e (n + 1)).sum ∧
  ((∃ e ∈ l, (rd_L4 routes (n : Nat)).contains e = true) → (l.map fun e => allTo routes prices e n).sum + rd prices n ≤ (l.map fun e => allTo routes prices e (n + 1)).sum)
 | [] => ⟨by simp, fun ⟨e, he, _⟩ => by simp at he⟩
 | x :: t => by
  obtain ⟨h1, h2⟩ := all_step routes prices n hp t
  have hx : allTo routes prices x (n + 1) = if (rd_L4 routes (n : Nat)).contains x = true then allTo routes prices x n + rd prices (n : Nat) else allTo routes prices x n := rfl
  simp only [List.map_cons, List.sum_cons]
  by_cases c : (rd_L4 routes (n : Nat)).contains x = true
  ·
   rw [hx, if_pos c]
   exact ⟨by omega, fun _ => by omega⟩
  ·
   rw [hx, if_neg c]
   refine ⟨by omega, fun ⟨e, he, hc⟩ => ?_⟩
   rcases List.mem_cons.1 he with rfl | he
   ·
    exact absurd hc c
   ·
    have := h2 ⟨e, he, hc⟩
    omega
theorem floor_le {routes : List (List Int)} {prices : List Int} (hg : givenB p l1 l2 l3 l4 l5 l = true) (hk : keepsB p l1 l2 l3 l4 (maskV l) = true) (hlen : routes.length = prices.length) (hb : badP prices = false) (hR : badR l1.length routes = false) (hf : fairR 0 l1 l2 l3 l4 routes prices = none) : prices.sum ≤ costV l1 l := by
 have hV := valid_facts (given_valid hg)
 have hmem := inc_mem (given_inc hg) (.inr (by omega)) (by have := hV.n1; omega)
 have hpos : ∀ n : Nat, n < prices.length → 0 ≤ rd prices n := fun n hn => by
  unfold badP at hb
  rw [List.any_eq_false] at hb
  have := hb prices[n] (List.getElem_mem hn)
  unfold inB at this
  simp at this
  have e : rd prices (n : Int) = prices[n] := by simp [rd, hn]
  rw [e]
  exact this.1
 have hrow : ∀ n : Nat, n < routes.length → ∀ k : Nat, k < (rd_L4 routes (n : Nat)).length → 0 ≤ rd (rd_L4 routes (n : Nat)) k ∧ rd (rd_L4 routes (n : Nat)) k < l1.length := fun n hn k hk' => by
  unfold badR at hR
  rw [List.any_eq_false] at hR
  have e : rd_L4 routes ((n : Nat) : Int) = routes[n] := by simp [rd_L4, hn]
  rw [e] at hk' ⊢
  have h1 := hR routes[n] (List.getElem_mem hn)
  rw [List.any_eq_true] at h1
  have h2 : ¬ ∃ x ∈ routes[n], (!inB x 0 ((l1.length : Int) - 1)) = true := fun ⟨x, h3, h4⟩ => h1 ⟨x, h3, h4⟩
  have h3 : inB (routes[n])[k] 0 ((l1.length : Int) - 1) = true := by
   cases hq : inB (routes[n])[k] 0 ((l1.length : Int) - 1) with
   | true => rfl
   | false => exact absurd ⟨_, List.getElem_mem hk', by rw [hq]; rfl⟩ h2
  unfold inB at h3
  simp only [Bool.and_eq_true, decide_eq_true_eq] at h3
  have e2 : rd routes[n] (k : Int) = (routes[n])[k] := by simp [rd, hk']
  rw [e2]
  omega
 unfold fairR at hf
 cases hfind : (List.range routes.length).find? (fairBad1 0 l1 l2 l3 l4 routes) with
 | some n => rw [hfind] at hf; cases hf
 | none =>
  rw [hfind] at hf
  have hcost : (List.range l1.length).any (costBad l1 routes prices) = false := by
   cases hq : (List.range l1.length).any (costBad l1 routes prices) with
   | false => rfl
   | true => rw [hq] at hf; cases hf
  rw [List.find?_eq_none] at hfind
  rw [List.any_eq_false] at hcost
  have hhit : ∀ n : Nat, n < routes.length → ∃ e ∈ l, (rd_L4 routes (n : Nat)).contains e = true := fun n hn => by
   apply Classical.byContradiction
   intro hno
   have hfb : fairBad1 0 l1 l2 l3 l4 routes n = false := by simpa using hfind n (List.mem_range.2 hn)
   unfold fairBad1 at hfb
   obtain ⟨route, hroute⟩ : ∃ r, r = rd_L4 routes (n : Nat) := ⟨_, rfl⟩
   rw [← hroute] at hfb hno
   have hrw := hrow n hn
   rw [← hroute] at hrw
   have hnd : ∀ k : Nat, k < route.length → (fun i : Nat => l.contains (i : Int)) (rd route k).toNat = false := fun k hk' => by
    cases hq : l.contains (((rd route (k : Int)).toNat : Nat) : Int) with
    | false => exact hq
    | true =>
     exfalso
     have hge := (hrw k hk').1
     rw [Int.toNat_of_nonneg hge] at hq
     refine hno ⟨rd route k, by simpa using hq, ?_⟩
     have e : rd route (k : Int) = route[k] := by simp [rd, hk']
     rw [e]
     simp
   cases he : endsV 0 l1 l2 l4 route with
   | none => rw [he] at hfb; cases hfb
   | some xs =>
    rw [he] at hfb
    have hany : (xs.any fun q => l3.contains q) = true := by simpa using hfb
    obtain ⟨x, hx1, hx2⟩ := List.any_eq_true.1 hany
    have hx3 : x ∈ l3 := by simpa using hx2
    unfold endsV at he
    by_cases c : route.length = 0
    ·
     rw [if_pos c] at he
     obtain rfl := Option.some.inj he
     exact keeps_not_foul hg hk x hx3 0 (by have := hV.n4; omega) (.waste hx1)
    ·
     rw [if_neg c] at he
     cases ht : endsTo 0 l1 l2 l4 route route.length with
     | none => rw [ht] at he; cases he
     | some y =>
      rw [ht] at he
      obtain rfl := Option.some.inj he
      have hx4 : x = (qax l1 (rd route (route.length - 1 : Nat))).f1 := by simpa using hx1
      rcases ends_foul hrw (fun i => l.contains (i : Int)) hnd route.length y (Nat.le_refl _) ht with h | h
      ·
       omega
      ·
       exact keeps_not_foul hg hk x hx3 y h.2.1 (by rw [hx4]; exact h.2.2)
  have hsum : ∀ n, n ≤ routes.length → (prices.take n).sum ≤ (l.map fun e => allTo routes prices e n).sum := by
   intro n
   induction n with
   | zero =>
    intro _
    have : ∀ l : List Int, (l.map fun e => allTo routes prices e 0).sum = 0 := by
     intro l
     induction l with
     | nil => rfl
     | cons x t ih => simp only [List.map_cons, List.sum_cons, ih]; rfl
    rw [this]
    simp
   | succ n ih =>
    intro hn
    have h1 := ih (by omega)
    have h2 := (all_step routes prices n (hpos n (by omega)) l).2 (hhit n (by omega))
    have hnp : n < prices.length := by omega
    have e : (prices.take (n + 1)).sum = (prices.take n).sum + rd prices n := by
     rw [List.take_succ, List.getElem?_eq_getElem hnp, List.sum_append]
     simp [rd, hnp]
    rw [e]
    omega
  have h1 := hsum routes.length (Nat.le_refl _)
  rw [List.take_of_length_le (by omega)] at h1
  refine Int.le_trans h1 ?_
  unfold costV
  refine sum_le _ _ l (fun x hx => ?_)
  have hx1 := hmem x hx
  obtain ⟨m, rfl⟩ := Int.eq_ofNat_of_zero_le hx1.1
  have h2 := hcost m (List.mem_range.2 (by omega))
  unfold costBad at h2
  have h3 : (qax l1 (m : Int)).f3 ≠ -1 := by
   unfold givenB at hg
   simp only [Bool.and_eq_true] at hg
   have := List.all_eq_true.1 hg.2.2 _ hx
   simpa using this
  simp [h3] at h2
  exact h2
end
def briefB (l : List (List Int)) : Bool := (List.range (min l.length 15)).all (fun i => decide ((rd_L4 l (i : Nat)).length ≤ 20)) && decide (l.length ≤ 15)
theorem brief_go (l : List (List Int)) : ∀ (m i k : Nat), i + m = min l.length 15 → 2 * m + 2 ≤ k → (∀ j : Nat, j < i → (rd_L4 l (j : Nat)).length ≤ 20) → taliklaw07_brief.l0 k l (i : Int) = some (briefB l) := by
 intro m
 induction m with
 | zero =>
  intro i k hi hk hp
  obtain ⟨k, rfl⟩ : ∃ m, k = m + 2 := ⟨k - 2, by omega⟩
  have h1 : (List.range (min l.length 15)).all (fun i => decide ((rd_L4 l (i : Nat)).length ≤ 20)) = true := range_all_true (fun j hj => decide_eq_true (hp j (by omega)))
  have hB : briefB l = decide ((l.length : Int) ≤ 15) := by
   unfold briefB
   rw [h1, Bool.true_and]
   exact decide_eq_decide.2 (by omega)
  rw [taliklaw07_brief.l0]
  by_cases c : (i : Int) < (l.length : Int)
  ·
   rw [if_pos c, show decide ((i : Int) < 15) = false from decide_eq_false (by omega), taliklaw07_brief.j1]
   rw [if_neg (by decide), hB]
  ·
   rw [if_neg c, taliklaw07_brief.j1]
   rw [if_neg (by decide), hB]
 | succ m ih =>
  intro i k hi hk hp
  obtain ⟨k, rfl⟩ : ∃ m, k = m + 2 := ⟨k - 2, by omega⟩
  rw [taliklaw07_brief.l0]
  rw [if_pos (by omega), show decide ((i : Int) < 15) = true from decide_eq_true (by omega), taliklaw07_brief.j1]
  rw [if_pos rfl, if_pos (by omega), if_pos (by omega)]
  by_cases c : ((rd_L4 l (i : Int)).length : Int) > 20
  ·
   rw [if_pos c]
   unfold briefB
   rw [range_all_false i (by omega) (decide_eq_false (by omega))]
   rfl
  ·
   rw [if_neg c, wsucc i (by omega)]
   refine ih (i + 1) k (by omega) (by omega) (fun j hj => ?_)
   rcases Nat.lt_or_ge j i with h | h
   ·
    exact hp j h
   ·
    obtain rfl : j = i := by omega
    omega
theorem brief_eq (l : List (List Int)) (k : Nat) (hk : 40 ≤ k) : taliklaw07_brief.f k l = some (briefB l) := brief_go l _ 0 k (Nat.zero_add _) (by omega) (fun j hj => by omega)
theorem brief_of {l : List (List Int)} (h : briefB l = true) : l.length ≤ 15 ∧ ∀ j : Nat, j < l.length → (rd_L4 l (j : Nat)).length ≤ 20 := by
 unfold briefB at h
 simp only [Bool.and_eq_true, decide_eq_true_eq] at h
 refine ⟨h.2, fun j hj => ?_⟩
 have := List.all_eq_true.1 h.1 j (List.mem_range.2 (by omega))
 simpa using this
section
variable (p : Int) (l1 : List S44) (l2 l3 : List Int) (l4 : List S41) (l5 : List S95)
def rowB (n : Nat) (row : List Int) : Bool := row.any fun x => !inB x 0 ((n : Int) - 1)
theorem edges_go (hn : l1.length ≤ 12) (l : List (List Int)) (hl : l.length ≤ 15) (hr : ∀ j : Nat, j < l.length → (rd_L4 l (j : Nat)).length ≤ 20) : ∀ (m i k : Nat), i + m = l.length → 25 * m + 1 ≤ k → (∀ j : Nat, j < i → rowB l1.length (rd_L4 l (j : Nat)) = false) → talikref07_Edges.l0 k l (i : Int) p l1 l2 l3 l4 l5 = some (!badR l1.length l) := by
 have hw : wrap64 ((l1.length : Int) - 1) = (l1.length : Int) - 1 := by unfold wrap64; omega
 have hrow : ∀ j : Nat, ∀ hj : j < l.length, rd_L4 l (j : Int) = l[j] := fun j hj => by simp [rd_L4, hj]
 intro m
 induction m with
 | zero =>
  intro i k hi hk hp
  obtain ⟨k, rfl⟩ : ∃ m, k = m + 1 := ⟨k - 1, by omega⟩
  rw [talikref07_Edges.l0]
  rw [if_neg (by omega)]
  have : badR l1.length l = false := by
   unfold badR
   rw [List.any_eq_false]
   intro row hrw
   obtain ⟨j, hj, rfl⟩ := List.mem_iff_getElem.1 hrw
   have := hp j (by omega)
   rw [hrow j hj] at this
   unfold rowB at this
   rw [this]
   simp
  rw [this]
  rfl
 | succ m ih =>
  intro i k hi hk hp
  obtain ⟨k, rfl⟩ : ∃ m, k = m + 1 := ⟨k - 1, by omega⟩
  have hil : i < l.length := by omega
  have hlr := hr i hil
  rw [talikref07_Edges.l0]
  rw [if_pos (by omega)]
  have inner : ∀ (d j k : Nat), j + d = (rd_L4 l (i : Nat)).length → d + 1 + (25 * m + 1) ≤ k → (∀ t : Nat, t < j → inB (rd (rd_L4 l (i : Nat)) t) 0 ((l1.length : Int) - 1) = true) → talikref07_Edges.l1 k l (i : Int) (j : Int) p l1 l2 l3 l4 l5 = some (!badR l1.length l) := by
   intro d
   induction d with
   | zero =>
    intro j k hj hk2 hq
    obtain ⟨k, rfl⟩ : ∃ m, k = m + 1 := ⟨k - 1, by omega⟩
    rw [talikref07_Edges.l1]
    rw [if_pos (by omega), if_pos (by omega), if_neg (by omega), wsucc i (by omega)]
    refine ih (i + 1) k (by omega) (by omega) (fun t ht => ?_)
    rcases Nat.lt_or_ge t i with h | h
    ·
     exact hp t h
    ·
     obtain rfl : t = i := by omega
     unfold rowB
     rw [List.any_eq_false]
     intro x hx
     obtain ⟨u, hu, rfl⟩ := List.mem_iff_getElem.1 hx
     have := hq u (by omega)
     rw [show rd (rd_L4 l (t : Nat)) (u : Int) = (rd_L4 l (t : Nat))[u] from by simp [rd, hu]] at this
     rw [this]
     simp
   | succ d ihd =>
    intro j k hj hk2 hq
    obtain ⟨k, rfl⟩ : ∃ m, k = m + 1 := ⟨k - 1, by omega⟩
    rw [talikref07_Edges.l1]
    rw [if_pos (by omega), if_pos (by omega), if_pos (by omega), if_pos (by omega), ref_in_eq, Option.bind_some, hw]
    cases hc : inB (rd (rd_L4 l (i : Nat)) (j : Int)) 0 ((l1.length : Int) - 1) with
    | true =>
     rw [if_pos rfl, wsucc j (by omega)]
     refine ihd (j + 1) k (by omega) (by omega) (fun t ht => ?_)
     rcases Nat.lt_or_ge t j with h | h
     ·
      exact hq t h
     ·
      obtain rfl : t = j := by omega
      exact hc
    | false =>
     rw [if_neg (by decide)]
     have hjl : j < (rd_L4 l (i : Nat)).length := by omega
     have : badR l1.length l = true := by
      unfold badR
      rw [List.any_eq_true]
      refine ⟨l[i], List.getElem_mem hil, ?_⟩
      rw [← hrow i hil, List.any_eq_true]
      refine ⟨_, List.getElem_mem hjl, ?_⟩
      rw [show rd (rd_L4 l (i : Nat)) (j : Int) = (rd_L4 l (i : Nat))[j] from by simp [rd, hjl]] at hc
      rw [hc]
      rfl
     rw [this]
     rfl
  exact inner _ 0 k (Nat.zero_add _) (by omega) (fun t ht => by omega)
theorem prices_go (l : List Int) (hl : l.length ≤ 15) : ∀ (m i k : Nat), i + m = l.length → m + 1 ≤ k → (∀ j : Nat, j < i → inB (rd l j) 0 1000000 = true) → talikref07_Prices.l0 k l (i : Int) = some (!badP l) := by
 intro m
 induction m with
 | zero =>
  intro i k hi hk hp
  obtain ⟨k, rfl⟩ : ∃ m, k = m + 1 := ⟨k - 1, by omega⟩
  rw [talikref07_Prices.l0]
  rw [if_neg (by omega)]
  have : badP l = false := by
   unfold badP
   rw [List.any_eq_false]
   intro x hx
   obtain ⟨j, hj, rfl⟩ := List.mem_iff_getElem.1 hx
   have := hp j (by omega)
   rw [show rd l (j : Int) = l[j] from by simp [rd, hj]] at this
   rw [this]
   simp
  rw [this]
  rfl
 | succ m ih =>
  intro i k hi hk hp
  obtain ⟨k, rfl⟩ : ∃ m, k = m + 1 := ⟨k - 1, by omega⟩
  have hil : i < l.length := by omega
  rw [talikref07_Prices.l0]
  rw [if_pos (by omega), if_pos (by omega), ref_in_eq, Option.bind_some]
  cases hc : inB (rd l (i : Int)) 0 1000000 with
  | true =>
   rw [if_pos rfl, wsucc i (by omega)]
   refine ih (i + 1) k (by omega) (by omega) (fun t ht => ?_)
   rcases Nat.lt_or_ge t i with h | h
   ·
    exact hp t h
   ·
    obtain rfl : t = i := by omega
    exact hc
  | false =>
   rw [if_neg (by decide)]
   have : badP l = true := by
    unfold badP
    rw [List.any_eq_true]
    refine ⟨l[i], List.getElem_mem hil, ?_⟩
    rw [show rd l (i : Int) = l[i] from by simp [rd, hil]] at hc
    rw [hc]
    rfl
   rw [this]
   rfl
def pricedV (routes : List (List Int)) (prices : List Int) : Int := if 10 < routes.length ∨ 10 < prices.length then 3 else if validB p l1 l2 l3 l4 l5 = true then (if routes.length = prices.length then (if badR l1.length routes = true then 2 else if badP prices = true then 2 else 0) else 2) else 2
theorem priced_eq (routes : List (List Int)) (prices : List Int) (hr : ∀ j : Nat, j < routes.length → (rd_L4 routes (j : Nat)).length ≤ 20) (k : Nat) (hk : 300 ≤ k) : taliklaw07_priced.f k p l1 l2 l3 l4 l5 routes prices = some (pricedV p l1 l2 l3 l4 l5 routes prices) := by
 obtain ⟨k, rfl⟩ : ∃ m, k = m + 1 := ⟨k - 1, by omega⟩
 unfold taliklaw07_priced.f pricedV
 by_cases c1 : (routes.length : Int) > 10
 ·
  rw [if_pos c1, taliklaw07_priced.j0]
  rw [if_pos rfl, if_pos (.inl (by omega))]
 ·
  rw [if_neg c1]
  by_cases c2 : (prices.length : Int) > 10
  ·
   rw [decide_eq_true c2, taliklaw07_priced.j0]
   rw [if_pos rfl, if_pos (.inr (by omega))]
  ·
   have hne : ¬ (10 < routes.length ∨ 10 < prices.length) := by omega
   rw [decide_eq_false c2, taliklaw07_priced.j0]
   rw [if_neg hne, if_neg (by decide), show talikref07_Map.f p l1 l2 l3 l4 l5 = some (validB p l1 l2 l3 l4 l5) from rfl, Option.bind_some]
   cases hv : validB p l1 l2 l3 l4 l5 with
   | false => rw [if_neg (by decide), if_neg (by decide)]
   | true =>
    have n1 := (valid_facts hv).n1
    rw [if_pos rfl, if_pos rfl]
    by_cases c3 : routes.length = prices.length
    ·
     rw [if_pos (by omega), if_pos c3, show talikref07_Edges.f k p l1 l2 l3 l4 l5 routes = some (!badR l1.length routes) from edges_go p l1 l2 l3 l4 l5 n1 routes (by omega) hr routes.length 0 k (by omega) (by omega) (fun j hj => by omega), Option.bind_some]
     cases badR l1.length routes with
     | true => rfl
     | false =>
      rw [show (!false) = true from rfl, if_pos rfl, if_neg (by decide), show talikref07_Prices.f k prices = some (!badP prices) from prices_go prices (by omega) prices.length 0 k (by omega) (by omega) (fun j hj => by omega), Option.bind_some]
      cases badP prices <;> rfl
    ·
     rw [if_neg (by omega), if_neg c3]
theorem given_nil (hv : validB p l1 l2 l3 l4 l5 = true) : givenB p l1 l2 l3 l4 l5 [] = true := by
 unfold givenB
 rw [hv]
 rfl
theorem floor_ok (routes : List (List Int)) (prices : List Int) (hr : ∀ j : Nat, j < routes.length → (rd_L4 routes (j : Nat)).length ≤ 20) (h : pricedV p l1 l2 l3 l4 l5 routes prices = 0) :
  seep_Floor.f p l1 l2 l3 l4 l5 routes prices = some (floorF prices (fairR 0 l1 l2 l3 l4 routes prices)) ∧ validB p l1 l2 l3 l4 l5 = true ∧ routes.length = prices.length ∧ badP prices = false ∧ badR l1.length routes = false := by
 unfold pricedV at h
 by_cases c1 : 10 < routes.length ∨ 10 < prices.length
 ·
  rw [if_pos c1] at h; cases h
 ·
  rw [if_neg c1] at h
  by_cases c2 : validB p l1 l2 l3 l4 l5 = true
  ·
   rw [if_pos c2] at h
   by_cases c3 : routes.length = prices.length
   ·
    rw [if_pos c3] at h
    by_cases c4 : badR l1.length routes = true
    ·
     rw [if_pos c4] at h; cases h
    ·
     rw [if_neg c4] at h
     by_cases c5 : badP prices = true
     ·
      rw [if_pos c5] at h; cases h
     ·
      refine ⟨?_, c2, c3, by simpa using c5, by simpa using c4⟩
      unfold seep_Floor.f floorV
      have hall : (routes.all fun l => decide (l.length ≤ 1000)) = true := by
       rw [List.all_eq_true]
       intro row hrw
       obtain ⟨j, hj, rfl⟩ := List.mem_iff_getElem.1 hrw
       have := hr j hj
       rw [show rd_L4 routes (j : Int) = routes[j] from by simp [rd_L4, hj]] at this
       simp
       omega
      rw [if_neg c1, if_pos (given_nil p l1 l2 l3 l4 l5 c2), if_pos c3, if_neg c5, if_neg c4, if_pos hall]
   ·
    rw [if_neg c3] at h; cases h
  ·
   rw [if_neg c2] at h; cases h
end
theorem proved_true (q : Nat) (hq : 399 ≤ q) (p : Int) (l1 : List S44) (l2 l3 : List Int) (l4 : List S41) (l5 : List S95) (routes : List (List Int)) (prices l : List Int) : taliklaw07_SeepProved.f (q + 1) p l1 l2 l3 l4 l5 routes prices l = some true := by
 obtain ⟨q, rfl⟩ : ∃ r, q = r + 1 := ⟨q - 1, by omega⟩
 unfold taliklaw07_SeepProved.f
 rw [short_eq]
 simp only [Option.bind_some]
 have hknown : taliklaw07_SeepProved.j0 (q + 1 + 1) routes prices l true p l1 l2 l3 l4 l5 = some true := by
  rw [taliklaw07_SeepProved.j0]
  rw [if_pos rfl, known_some]
  rfl
 cases hs : shortB l1 l2 l3 l4 l5 with
 | false => rw [if_neg (by simp)]; exact hknown
 | true =>
  rw [if_pos rfl, brief_eq routes _ (by omega)]
  simp only [Option.bind_some]
  cases hbr : briefB routes with
  | false => rw [if_neg (by decide)]; exact hknown
  | true =>
   obtain ⟨b1, b2⟩ := brief_of hbr
   rw [if_pos rfl]
   by_cases c1 : (prices.length : Int) > 15
   ·
    rw [if_pos c1]; exact hknown
   ·
    rw [if_neg c1]
    by_cases c2 : (l.length : Int) > 16
    ·
     rw [if_pos c2]; exact hknown
    ·
     rw [if_neg c2, priced_eq p l1 l2 l3 l4 l5 routes prices b2 _ (by omega)]
     simp only [Option.bind_some]
     by_cases c3 : pricedV p l1 l2 l3 l4 l5 routes prices = 0
     ·
      rw [if_pos c3, asked_eq]
      simp only [Option.bind_some]
      cases hg : givenB p l1 l2 l3 l4 l5 l with
      | false => exact hknown
      | true =>
       obtain ⟨hfl, hv, hlen, hbp, hbR⟩ := floor_ok p l1 l2 l3 l4 l5 routes prices b2 c3
       rw [taliklaw07_SeepProved.j0]
       rw [if_neg (by decide), hfl, show seep_Dykes.f p l1 l2 l3 l4 l5 = some (dykR (bestV (holdsV p l1 l2 l3 l4 l5) (choicesV l1))) from by unfold seep_Dykes.f dykesV; rw [if_pos hv], clean_eq hg (q + 1) (by omega)]
       simp only [Option.bind_some]
       have hb := best_spec (holdsV p l1 l2 l3 l4 l5) (choicesV l1) none (fun y hy => by cases hy)
       obtain ⟨D, hD⟩ : ∃ D, D = dykR (bestV (holdsV p l1 l2 l3 l4 l5) (choicesV l1)) := ⟨_, rfl⟩
       rw [← hD]
       have hD2 : (D.2.2 = 0 ∧ (fairR 0 l1 l2 l3 l4 routes prices = none → prices.sum ≤ D.2.1)) ∨ D.2.2 = 5 := by
        cases hr : bestV (holdsV p l1 l2 l3 l4 l5) (choicesV l1) with
        | none => right; rw [hD, hr]; rfl
        | some y =>
         left
         rw [hD, hr]
         change (choicesV l1).foldl (bestS (holdsV p l1 l2 l3 l4 l5)) none = some y at hr
         rw [hr] at hb
         obtain ⟨i1, i2, _, _⟩ := hb
         have hy : y ∈ choicesV l1 := by
          rcases i2 with i2 | i2
          ·
           cases i2
          ·
           exact i2
         refine ⟨rfl, fun hf => ?_⟩
         unfold holdsV at i1
         simp only [Bool.and_eq_true] at i1
         have hcy := choices_cost y hy
         show prices.sum ≤ y.1
         rw [hcy]
         exact floor_le i1.1 i1.2 hlen hbp hbR hf
       cases hf : fairR 0 l1 l2 l3 l4 routes prices with
       | some n =>
        have hj : taliklaw07_SeepProved.j1 (q + 1) l 0 7 D.2.1 D.2.2 (keepsB p l1 l2 l3 l4 (maskV l)) false p l1 l2 l3 l4 l5 = some true := by
         rw [taliklaw07_SeepProved.j1]
         simp [known_some]
        simp only [floorF]
        rw [if_neg (by decide), if_pos trivial]
        rcases hD2 with h | h
        ·
         rw [if_pos h.1]; exact hj
        ·
         rw [if_neg (by omega), if_pos h]; exact hj
       | none =>
        have hown : keepsB p l1 l2 l3 l4 (maskV l) = true → prices.sum ≤ costV l1 l := fun hk => floor_le hg hk hlen hbp hbR hf
        have hcost := cost_eq hv (given_mem hg) (by omega) q (by omega)
        have hj : taliklaw07_SeepProved.j1 (q + 1) l prices.sum 0 D.2.1 D.2.2 (keepsB p l1 l2 l3 l4 (maskV l)) false p l1 l2 l3 l4 l5 = some true := by
         rw [taliklaw07_SeepProved.j1]
         rw [if_neg (by decide), if_pos rfl]
         have hz : (if keepsB p l1 l2 l3 l4 (maskV l) = true then ((talikref07_Cost.f q p l1 l2 l3 l4 l5 l).bind fun t => if t ≥ prices.sum then (taliklaw07_known.f.bind fun u => some u) else some false) else (taliklaw07_known.f.bind fun u => some u)) = some true := by
          cases hk : keepsB p l1 l2 l3 l4 (maskV l) with
          | false => simp [known_some]
          | true =>
           rw [if_pos rfl, hcost, Option.bind_some, if_pos (hown hk), known_some]
           rfl
         rcases hD2 with h | h
         ·
          rw [if_pos h.1, if_pos (h.2 hf)]; exact hz
         ·
          rw [if_neg (by omega)]; exact hz
        simp only [floorF]
        rw [if_pos trivial]
        rcases hD2 with h | h
        ·
         rw [if_pos h.1]; exact hj
        ·
         rw [if_neg (by omega), if_pos h]; exact hj
     ·
      rw [if_neg c3]; exact hknown
def Opens {α : Type} (d : Kd α) (t : TypeId) : Prop := ∀ (H : Type) (enc : TypeId × Value → H) (w : World) (base fuel : Nat) (cs : List Value) (x : DataW H × List MemPlace), DataW.trod enc Try.prog w base (fun _ => true) true fuel t cs = some x → ∃ v, d.K w v cs
theorem opens_int : Opens (Kd.int .i64) 3 := by
 intro H enc w base fuel cs x h
 obtain ⟨n, rfl, _, _⟩ := DataW.trod_int Try.underlying3 h
 exact ⟨n, rfl⟩
theorem cell_of_cells {w : World} {base n : Nat} {a : Addr} {cs : List Value} (h : w.cells? base a n = some cs) : cs.length = n ∧ ∀ i u, cs[i]? = some u → w.cell? (a.add i) = some u := by
 unfold World.cells? at h
 split at h
 ·
  refine ⟨by simpa using mapM_some_length h, fun i u hu => ?_⟩
  have hi : i < n := by
   have h1 := mapM_some_length h
   have h2 := (List.getElem?_eq_some_iff.1 hu).1
   simp at h1
   omega
  have h3 := mapM_some_get h i i (by simp [hi])
  rw [h3]
  exact hu
 ·
  cases h
theorem opens_slice {α : Type} {d : Kd α} {t e : TypeId} (z : α) (ht : Try.prog.underlying t = some (.slice e)) (hz : Try.prog.cellsOf e = d.sz) (hd : Opens d e) : Opens (Kd.slice e d) t := by
 intro H enc w base fuel cs x h
 rcases Deep.open_slice ht h with ⟨rfl, _⟩ | ⟨a, len, cap, m, n, D, Pl, rfl, hb, hl, hm, hmm, _, hel⟩
 ·
  exact ⟨[], none, 0, rfl, Nat.le_refl _, rfl, by simp, fun h => absurd h (by simp)⟩
 ·
  simp only [if_true] at hmm
  subst hmm
  haveI : Inhabited (α × List Value) := ⟨(z, [])⟩
  obtain ⟨F, hF⟩ : ∃ F : Nat → α × List Value, ∀ i, i < len → w.cells? base (a.add (i * Try.prog.cellsOf e)) (Try.prog.cellsOf e) = some (F i).2 ∧ d.K w (F i).1 (F i).2 := by
   have hx : ∀ i, i < len → ∃ q : α × List Value, w.cells? base (a.add (i * Try.prog.cellsOf e)) (Try.prog.cellsOf e) = some q.2 ∧ d.K w q.1 q.2 := fun i hi => by
    obtain ⟨cs', h1, h2⟩ := hel i (by omega)
    obtain ⟨v, hv⟩ := hd H enc w base n cs' _ h2
    exact ⟨(v, cs'), h1, hv⟩
   exact Deep.choose_lt hx
  have hlen : ((List.range len).map fun i => (F i).1).length = len := by simp
  refine ⟨(List.range len).map fun i => (F i).1, some a, m, by rw [hlen], by rw [hlen]; exact hl, rfl, ?_, fun _ => ⟨a, rfl, fun j p hj => ?_⟩⟩
  ·
   rw [hlen]
   have : maxLen ≤ 9223372036854775807 := by decide
   omega
  ·
   obtain ⟨hj1, hj2⟩ := List.getElem?_eq_some_iff.1 hj
   have hjl : j < len := by simpa using hj1
   have hp : p = (F j).1 := by simpa using hj2.symm
   subst hp
   obtain ⟨h1, h2⟩ := hF j hjl
   refine ⟨(F j).2, d.K_len h2, h2, fun i u hu => ?_⟩
   have h3 := (cell_of_cells h1).2 i u hu
   rw [Deep.add_add, hz] at h3
   exact h3
theorem K_pair {α β : Type} {a : Kd α} {b : Kd β} {w : World} {cs : List Value} {o : Nat} {x : α} {y : β} (h1 : a.K w x ((cs.drop o).take a.sz)) (h2 : b.K w y (cs.drop (o + a.sz))) : (Kd.pair a b).K w (x, y) (cs.drop o) :=
 ⟨_, _, by have h := (List.take_append_drop a.sz (cs.drop o)).symm; rwa [List.drop_drop] at h, h1, h2⟩
theorem K_last {α : Type} {a : Kd α} {w : World} {cs : List Value} {o : Nat} {x : α} (h1 : a.K w x ((cs.drop o).take a.sz)) (hl : cs.length = o + a.sz) : a.K w x (cs.drop o) := by
 rwa [List.take_of_length_le (by simp; omega)] at h1
theorem field_of {α : Type} {d : Kd α} {t : TypeId} (hd : Opens d t) (hz : Try.prog.cellsOf t = d.sz) {H : Type} {enc : TypeId × Value → H} {w : World} {base n o : Nat} {cs : List Value} {xs : List (DataW H × List MemPlace)} {i : Nat} (hi : i < xs.length)
  (h : DataW.trod enc Try.prog w base (fun _ => true) true n t ((cs.drop o).take (Try.prog.cellsOf t)) = xs[i]?) : ∃ v, d.K w v ((cs.drop o).take d.sz) := by
 rw [hz, List.getElem?_eq_getElem hi] at h
 exact hd H enc w base n _ _ h
theorem opens_41 : Opens k41 41 := by
 intro H enc w base fuel cs x h
 obtain ⟨xs, n, rfl, rfl, hl, hxl, hf⟩ := DataW.trod_struct Try.underlying41 h
 have hl' : cs.length = 2 := hl.trans (by kernel_rfl)
 have hx : xs.length = 2 := hxl
 obtain ⟨v0, e0⟩ := field_of opens_int (by kernel_rfl) (i := 0) (by omega) (hf 0 _ rfl)
 obtain ⟨v1, e1⟩ := field_of opens_int (by kernel_rfl) (i := 1) (by omega) (hf 1 _ rfl)
 exact ⟨⟨v0, v1⟩, K_pair (o := 0) e0 (K_last (o := 0 + 1) e1 hl')⟩
theorem opens_44 : Opens k44 44 := by
 intro H enc w base fuel cs x h
 obtain ⟨xs, n, rfl, rfl, hl, hxl, hf⟩ := DataW.trod_struct Try.underlying44 h
 have hl' : cs.length = 4 := hl.trans (by kernel_rfl)
 have hx : xs.length = 4 := hxl
 obtain ⟨v0, e0⟩ := field_of opens_int (by kernel_rfl) (i := 0) (by omega) (hf 0 _ rfl)
 obtain ⟨v1, e1⟩ := field_of opens_int (by kernel_rfl) (i := 1) (by omega) (hf 1 _ rfl)
 obtain ⟨v2, e2⟩ := field_of opens_int (by kernel_rfl) (i := 2) (by omega) (hf 2 _ rfl)
 obtain ⟨v3, e3⟩ := field_of opens_int (by kernel_rfl) (i := 3) (by omega) (hf 3 _ rfl)
 exact ⟨⟨v0, v1, v2, v3⟩, K_pair (o := 0) e0 (K_pair (o := 0 + 1) e1 (K_pair (o := 0 + 1 + 1) e2 (K_last (o := 0 + 1 + 1 + 1) e3 hl')))⟩
theorem opens_95 : Opens k95 95 := by
 intro H enc w base fuel cs x h
 obtain ⟨xs, n, rfl, rfl, hl, hxl, hf⟩ := DataW.trod_struct Try.underlying95 h
 have hl' : cs.length = 6 := hl.trans (by kernel_rfl)
 have hx : xs.length = 4 := hxl
 obtain ⟨v0, e0⟩ := field_of opens_int (by kernel_rfl) (i := 0) (by omega) (hf 0 _ rfl)
 obtain ⟨v1, e1⟩ := field_of opens_int (by kernel_rfl) (i := 1) (by omega) (hf 1 _ rfl)
 obtain ⟨v2, e2⟩ := field_of opens_41 (by kernel_rfl) (i := 2) (by omega) (hf 2 _ rfl)
 obtain ⟨v3, e3⟩ := field_of opens_41 (by kernel_rfl) (i := 3) (by omega) (hf 3 _ rfl)
 exact ⟨⟨v0, v1, v2, v3⟩, K_pair (o := 0) e0 (K_pair (o := 0 + 1) e1 (K_pair (o := 0 + 1 + 1) e2 (K_last (o := 0 + 1 + 1 + 2) e3 hl')))⟩
theorem opens_22 : Opens (Kd.slice 44 k44) 22 := opens_slice z44 Try.underlying22 (by kernel_rfl) opens_44
theorem opens_24 : Opens (Kd.slice 41 k41) 24 := opens_slice z41 Try.underlying24 (by kernel_rfl) opens_41
theorem opens_25 : Opens (Kd.slice 95 k95) 25 := opens_slice z95 Try.underlying25 (by kernel_rfl) opens_95
theorem opens_23 : Opens (Kd.slice 3 (Kd.int .i64)) 23 := opens_slice 0 Try.underlying23 (by kernel_rfl) opens_int
theorem opens_58 : Opens (Kd.slice 23 (Kd.slice 3 (Kd.int .i64))) 58 := opens_slice [] Try.underlying58 (by kernel_rfl) opens_23
def kMap : Kd (Int × List S44 × List Int × List Int × List S41 × List S95) := Kd.pair (Kd.int .i64) (Kd.pair (Kd.slice 44 k44) (Kd.pair (Kd.slice 3 (Kd.int .i64)) (Kd.pair (Kd.slice 3 (Kd.int .i64)) (Kd.pair (Kd.slice 41 k41) (Kd.slice 95 k95)))))
theorem opens_27 : Opens kMap 27 := by
 intro H enc w base fuel cs x h
 obtain ⟨xs, n, rfl, rfl, hl, hxl, hf⟩ := DataW.trod_struct Try.underlying27 h
 have hl' : cs.length = 6 := hl.trans (by kernel_rfl)
 have hx : xs.length = 6 := hxl
 obtain ⟨v0, e0⟩ := field_of opens_int (by kernel_rfl) (i := 0) (by omega) (hf 0 _ rfl)
 obtain ⟨v1, e1⟩ := field_of opens_22 (by kernel_rfl) (i := 1) (by omega) (hf 1 _ rfl)
 obtain ⟨v2, e2⟩ := field_of opens_23 (by kernel_rfl) (i := 2) (by omega) (hf 2 _ rfl)
 obtain ⟨v3, e3⟩ := field_of opens_23 (by kernel_rfl) (i := 3) (by omega) (hf 3 _ rfl)
 obtain ⟨v4, e4⟩ := field_of opens_24 (by kernel_rfl) (i := 4) (by omega) (hf 4 _ rfl)
 obtain ⟨v5, e5⟩ := field_of opens_25 (by kernel_rfl) (i := 5) (by omega) (hf 5 _ rfl)
 exact ⟨(v0, v1, v2, v3, v4, v5), K_pair (o := 0) e0 (K_pair (o := 0 + 1) e1 (K_pair (o := 0 + 1 + 1) e2 (K_pair (o := 0 + 1 + 1 + 1) e3 (K_pair (o := 0 + 1 + 1 + 1 + 1) e4 (K_last (o := 0 + 1 + 1 + 1 + 1 + 1) e5 hl')))))⟩
theorem open_map {H : Type} {enc : TypeId × Value → H} {w : World} {b0 : Nat} {v : Value} {d : DataW H} {p : List MemPlace} (hv : Value.okWide Try.prog w .any b0 27 v) (h : DataW.Trod enc Try.prog w 0 (fun _ => true) true 27 v d p) :
  ∃ (m : Int) (A1 : Option Addr) (c1 : Nat) (l1 : List S44) (A2 : Option Addr) (c2 : Nat) (l2 : List Int) (A3 : Option Addr) (c3 : Nat) (l3 : List Int) (A4 : Option Addr) (c4 : Nat) (l4 : List S41) (A5 : Option Addr) (c5 : Nat) (l5 : List S95), v = .agg #[.int .i64 m, .slice A1 l1.length c1, .slice A2 l2.length c2, .slice A3 l3.length c3, .slice A4 l4.length c4, .slice A5 l5.length c5] ∧
   Kd.C k44 w A1 l1.length l1 ∧ l1.length ≤ c1 ∧ Kd.C (Kd.int .i64) w A2 l2.length l2 ∧ l2.length ≤ c2 ∧ Kd.C (Kd.int .i64) w A3 l3.length l3 ∧ l3.length ≤ c3 ∧ Kd.C k41 w A4 l4.length l4 ∧ l4.length ≤ c4 ∧ Kd.C k95 w A5 l5.length l5 ∧ l5.length ≤ c5 := by
 obtain ⟨cs, rfl, hsz⟩ := WideShapes.okWide_struct Try.underlying27 hv
 obtain ⟨n, hn⟩ := h
 obtain ⟨⟨m, l1, l2, l3, l4, l5⟩, c0, r0, e0, rfl, a1, r1, rfl, ⟨A1, c1, rfl, f1, g1⟩, a2, r2, rfl, ⟨A2, c2, rfl, f2, g2⟩, a3, r3, rfl, ⟨A3, c3, rfl, f3, g3⟩, a4, r4, rfl, ⟨A4, c4, rfl, f4, g4⟩, ⟨A5, c5, rfl, f5, g5⟩⟩ := opens_27 H enc w 0 n _ _ hn
 refine ⟨m, A1, c1, l1, A2, c2, l2, A3, c3, l3, A4, c4, l4, A5, c5, l5, ?_, g1, f1, g2, f2, g3, f3, g4, f4, g5, f5⟩
 have e : cs.toList = [.int .i64 m, .slice A1 l1.length c1, .slice A2 l2.length c2, .slice A3 l3.length c3, .slice A4 l4.length c4, .slice A5 l5.length c5] := by simpa [Value.cells] using e0
 rw [show cs = #[.int .i64 m, .slice A1 l1.length c1, .slice A2 l2.length c2, .slice A3 l3.length c3, .slice A4 l4.length c4, .slice A5 l5.length c5] from Array.toList_inj.1 e]
theorem open_nums {H : Type} {enc : TypeId × Value → H} {w : World} {b0 : Nat} {v : Value} {d : DataW H} {p : List MemPlace} (hv : Value.okWide Try.prog w .any b0 23 v) (h : DataW.Trod enc Try.prog w 0 (fun _ => true) true 23 v d p) :
  ∃ (A : Option Addr) (c : Nat) (l : List Int), v = .slice A l.length c ∧ Kd.C (Kd.int .i64) w A l.length l ∧ l.length ≤ c := by
 obtain ⟨a, len, cap, rfl⟩ := WideShapes.okWide_slice Try.underlying23 hv
 obtain ⟨n, hn⟩ := h
 obtain ⟨l, A, c, e, f, g⟩ := opens_23 H enc w 0 n _ _ hn
 simp [Value.cells] at e
 obtain ⟨rfl, rfl, rfl⟩ := e
 exact ⟨_, _, l, rfl, g, f⟩
theorem open_rows {H : Type} {enc : TypeId × Value → H} {w : World} {b0 : Nat} {v : Value} {d : DataW H} {p : List MemPlace} (hv : Value.okWide Try.prog w .any b0 58 v) (h : DataW.Trod enc Try.prog w 0 (fun _ => true) true 58 v d p) :
  ∃ (A : Option Addr) (c : Nat) (l : List (List Int)), v = .slice A l.length c ∧ Kd.C (Kd.slice 3 (Kd.int .i64)) w A l.length l ∧ l.length ≤ c := by
 obtain ⟨a, len, cap, rfl⟩ := WideShapes.okWide_slice Try.underlying58 hv
 obtain ⟨n, hn⟩ := h
 obtain ⟨l, A, c, e, f, g⟩ := opens_58 H enc w 0 n _ _ hn
 simp [Value.cells] at e
 obtain ⟨rfl, rfl, rfl⟩ := e
 exact ⟨_, _, l, rfl, g, f⟩
end Go.Proofs.Ytafkanmioinbiaa.SA
