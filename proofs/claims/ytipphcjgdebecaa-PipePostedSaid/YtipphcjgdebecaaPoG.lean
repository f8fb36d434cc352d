/- Parts of a proof about the pipe seat's laws: what the functions of the program answer. No condition of its own. -/
import Derived.RangeFuncNested
import Derived.RangeFuncBound
import Derived.RangeFuncCalls
import Derived.RangeFuncLeaves
import Derived.RangeFuncBox
import Derived.Shelf.Abstract
import Derived.Shelf.RegionOpen
import Derived.OwnWalkIn
import Derived.TacticsInMore
import Derived.LoopNIn
import Derived.LoopIn
import Derived.Recover
import Derived.Defers
import Derived.WalkLawsBesides
import Derived.WalkSmall
import Derived.Test.YtipphcjgdebecaaPoD
import Derived.Test.YtipphcjgdebecaaSC
import Derived.Test.YtipphcjgdebecaaSN
import Derived.Test.YtipphcjgdebecaaSO
import Derived.Test.YtipphcjgdebecaaPoC
import Derived.Test.YtipphcjgdebecaaSF
import Derived.Test.YtipphcjgdebecaaPoE
import Derived.Test.YtipphcjgdebecaaPoF
set_option linter.all false
namespace Go.Proofs.Ytipphcjgdebecaa.PA
open Go.RowKit Go.Shelf Go.Proofs.YtipphcjgdebecaaW.PrintWords Go.Proofs.YtipphcjgdebecaaW.PrintLast Go.Proofs.YtipphcjgdebecaaW.PrintMore
attribute [local go_sem] max2_int min2_int max_two min_two max_three min_three max_four min_four
theorem least_go {l0 : List S39} {l1 : List S37} {l2 : List (List Int)} {a : Int} {fs : List Int} (h : FaultsOk l0 l1 l2 a fs) :
  ∀ (m j k : Nat) (s : Int), j + m = fs.length → m + 2 ≤ k → taliklaw04_least.l0 k a fs s (j : Int) l0 l1 l2 = some (match leastL (orderV l0 l1 l2 a) s (fs.drop j) with | some m => (m, true) | none => (-1, true)) := by
 have hl := h.len
 intro m
 induction m with
 | zero =>
  intro j k s hj hk
  obtain ⟨k, rfl⟩ : ∃ k', k = k' + 1 := ⟨k - 1, by omega⟩
  unfold taliklaw04_least.l0
  rw [if_neg (by omega), List.drop_eq_nil_of_le (by omega)]
  rfl
 | succ m ih =>
  intro j k s hj hk
  obtain ⟨k, rfl⟩ : ∃ k', k = k' + 1 := ⟨k - 1, by omega⟩
  have hlt : j < fs.length := by omega
  have hfj := h.all _ (List.getElem_mem hlt)
  unfold taliklaw04_least.l0
  rw [if_pos (by omega), if_pos (by omega), rd_at fs j hlt, order_eq h.v a _ h.a0 h.a1 hfj k (by omega), List.drop_eq_getElem_cons hlt]
  simp only [Option.bind_some, leastL]
  cases hr : (orderV l0 l1 l2 a fs[j]).2.2 with
  | false => simp
  | true =>
   have hp := slack_pos h.v h.a0 h.a1 hfj hr
   simp only [if_true]
   rw [if_neg (by decide), if_neg (by omega), wsucc j (by omega), ih (j + 1) k _ (by omega) (by omega)]
theorem least_eq {l0 : List S39} {l1 : List S37} {l2 : List (List Int)} {a : Int} {fs : List Int} (h : FaultsOk l0 l1 l2 a fs) (k : Nat) (hk : 20 ≤ k) :
  taliklaw04_least.f k l0 l1 l2 a fs = some (match leastL (orderV l0 l1 l2 a) l1.length fs with | some m => (m, true) | none => (-1, true)) := by
 have hl := h.len
 have h := least_go h fs.length 0 k (l1.length : Int) (by omega) (by omega)
 simpa [taliklaw04_least.f] using h
theorem posted_true (q : Nat) (hq : 499 ≤ q) (l0 : List S39) (l1 : List S37) (l2 : List (List Int)) (fs : List Int) (a2 : Int) : taliklaw04_PipePosted.f (q + 1) l0 l1 l2 fs a2 = some true := by
 unfold taliklaw04_PipePosted.f
 rw [short_eq l0 l1 l2 (q + 1) (by omega)]
 simp only [Option.bind_some]
 have hknown : taliklaw04_PipePosted.j0 (q + 1) fs a2 true l0 l1 l2 = some true := by
  rw [taliklaw04_PipePosted.j0, if_pos rfl, known_some]
  rfl
 cases hs : shortB l0 l1 l2 with
 | false =>
  rw [if_neg (by simp)]
  exact hknown
 | true =>
  rw [if_pos rfl]
  have hsh := short_of hs
  by_cases h4 : (l0.length : Int) > 4
  ·
   rw [if_pos h4]
   exact hknown
  ·
   rw [if_neg h4, faulted_eq l0 l1 l2 hsh a2 fs (q + 1) (by omega)]
   simp only [Option.bind_some]
   by_cases hz : faultedV l0 l1 l2 a2 fs = 0
   ·
    have hok := faults_ok hz
    have hok0 : FaultsOk l0 l1 l2 0 fs := ⟨hok.len, hok.v, Int.le_refl _, by omega, hok.all⟩
    have hN := net_ok hok.v
    rw [hz]
    rw [taliklaw04_PipePosted.j0, if_neg (by decide)]
    have hpost : pipe_Post.f l0 l1 l2 fs = some (postV l0 l1 l2 fs) := rfl
    rw [hpost, least_eq hok q (by omega)]
    simp only [Option.bind_some]
    have hpos : ∀ p : Int, 0 ≤ p → p ≤ l0.length → ∀ m, leastL (orderV l0 l1 l2 p) l1.length fs = some m → 0 ≤ m := fun p p0 p1 m hm =>
     leastL_pos fs _ m (fun f hf hr => slack_pos hok.v p0 p1 (hok.all f hf) hr) (by omega) hm
    rcases post_eq hok0 with ⟨hno, hp⟩ | ⟨p, s, p0, p1, hps, hp, hbest⟩
    ·
     rw [hp, hno a2 hok.a0 hok.a1]
     simp [known_some]
    ·
     rw [hp]
     have hp' : inB p 0 l0.length = true := by
      unfold inB
      simp
      omega
     have hs0 := hpos p p0 p1 s hps
     have hrest : ∀ x : Int, (x < s ∨ x = s ∧ p ≤ a2) → ((taliklaw04_least.f q l0 l1 l2 p fs).bind fun bt436 => (if bt436.2 = true then ((talikref04_Place.f l0 l1 l2 p).bind fun t438 => (if t438 = true then (if bt436.1 = s then (if s ≥ 0 then (if x < s then ((taliklaw04_known.f).bind fun t439 => (some t439)) else (if x = s then (if a2 ≥ p then ((taliklaw04_known.f).bind fun t440 => (some t440)) else (some false)) else (some false))) else (some false)) else (some false)) else (some false))) else (some false))) = some true := by
      intro x hx
      rw [least_eq ⟨hok.len, hok.v, p0, p1, hok.all⟩ q (by omega), hps, rplace_eq, hp']
      simp only [Option.bind_some, if_true]
      rw [if_pos (show s ≥ 0 from hs0), known_some]
      rcases hx with hx | ⟨hx, hy⟩
      ·
       rw [if_pos hx]
       rfl
      ·
       rw [if_neg (by omega), if_pos hx, if_pos (show a2 ≥ p from hy)]
       rfl
     cases hm : leastL (orderV l0 l1 l2 a2) l1.length fs with
     | none =>
      have h := hrest (-1) (.inl (by omega))
      simpa using h
     | some m =>
      have hb := hbest a2 m hok.a0 hok.a1 hm
      have h := hrest m (by rcases Int.lt_or_eq_of_le hb.1 with h | h; exact .inl h; exact .inr ⟨h, hb.2 h⟩)
      simpa using h
   ·
    have hb : (faultedV l0 l1 l2 a2 fs != 0) = true := by simp [hz]
    rw [hb]
    exact hknown
end Go.Proofs.Ytipphcjgdebecaa.PA
