/- Parts of a proof about the pipe seat's laws: what the functions of the program answer. No condition of its own. -/
import Derived.RangeFuncNested
import Derived.RangeFuncBound
import Derived.RangeFuncCalls
import Derived.RangeFuncLeaves
import Derived.RangeFuncBox
import Derived.Shelf.Abstract
import Derived.Shelf.RegionOpen
import Derived.OwnWalkIn
import Derived.TacticsInMore
import Derived.LoopNIn
import Derived.LoopIn
import Derived.Recover
import Derived.Defers
import Derived.WalkLawsBesides
import Derived.WalkSmall
import Derived.Test.YtipphcjgdebecaaPrF
import Derived.Test.YtipphcjgdebecaaSC
import Derived.Test.YtipphcjgdebecaaSE
import Derived.Test.YtipphcjgdebecaaSH
import Derived.Test.YtipphcjgdebecaaPrC
import Derived.Test.YtipphcjgdebecaaSF
import Derived.Test.YtipphcjgdebecaaPrG
set_option linter.all false
namespace Go.Proofs.Ytipphcjgdebecaa.PA
open Go.RowKit Go.Shelf Go.Proofs.YtipphcjgdebecaaW.PrintWords Go.Proofs.YtipphcjgdebecaaW.PrintLast Go.Proofs.YtipphcjgdebecaaW.PrintMore
attribute [local go_sem] max2_int min2_int max_two min_two max_three min_three max_four min_four
theorem rivals_true (q : Nat) (hq : 499 ≤ q) (l0 : List S39) (l1 : List S37) (l2 : List (List Int)) (a1 a2 : Int) (l3 : List Int) : taliklaw04_PipeRivals.f (q + 1) l0 l1 l2 a1 a2 l3 = some true := by
 unfold taliklaw04_PipeRivals.f
 rw [short_eq l0 l1 l2 (q + 1) (by omega)]
 simp only [Option.bind_some]
 have hknown : taliklaw04_PipeRivals.j0 (q + 1) a1 a2 l3 true l0 l1 l2 = some true := by
  rw [taliklaw04_PipeRivals.j0, if_pos rfl, known_some]
  rfl
 cases hs : shortB l0 l1 l2 with
 | false =>
  rw [if_neg (by simp)]
  exact hknown
 | true =>
  rw [if_pos rfl]
  have hsh := short_of hs
  rw [net_eq l0 l1 l2 hsh (q + 1) (by omega)]
  simp only [Option.bind_some]
  cases hv : validB l0 l1 l2 with
  | false =>
   rw [if_neg (by simp)]
   exact hknown
  | true =>
   have hN := net_ok hv
   have hB := bok hN
   have hn0 := hN.n0
   have hn1 := hN.n1
   rw [if_pos rfl, rplace_eq]
   simp only [Option.bind_some]
   cases hp : inB a1 0 l0.length with
   | false =>
    rw [if_neg (by simp)]
    exact hknown
   | true =>
    have hp' := hp
    unfold inB at hp'
    simp only [Bool.and_eq_true, decide_eq_true_eq] at hp'
    rw [if_pos rfl, rfault_eq l0 l1 l2 (by omega) a2 (q + 1) (by omega)]
    simp only [Option.bind_some]
    cases hf : inFault l0 a2 with
    | false =>
     rw [if_neg (by simp)]
     exact hknown
    | true =>
     have hf' := hf
     unfold inFault inB at hf'
     simp only [Bool.and_eq_true, decide_eq_true_eq] at hf'
     rw [if_pos rfl]
     by_cases hl : (l3.length : Int) > 8
     ·
      rw [if_pos hl]
      exact hknown
     ·
      obtain ⟨b, hb, hbi⟩ := isOrder_eq l0 l1 l2 a2 l3 hn0 hn1 hf'.1 (by omega) (by omega) (q + 1) (by omega)
      rw [if_neg hl, hb]
      simp only [Option.bind_some]
      cases b with
      | false => exact hknown
      | true =>
       have hperm := hbi.1 rfl
       have hsok := sok hN hp'.1 hp'.2 hf
       have hin : ∀ o : List Int, o.Perm (qay a2 5) → ∀ x ∈ o, 0 ≤ x ∧ x < l0.length := fun o ho x hx => hsok.lo x ((List.Perm.mem_iff ho).1 hx)
       have hlen5 : ∀ o : List Int, o.Perm (qay a2 5) → o.length ≤ 8 := fun o ho => by
        have h1 := ho.length_eq
        have h2 := cnt_le a2
        unfold cntB at h2
        omega
       have hDl : (duesI l0 l1).length = l0.length := by simp [duesI]
       rw [taliklaw04_PipeRivals.j0, if_neg (by decide), rdues_eq hv q (by omega)]
       simp only [Option.bind_some, if_true]
       rw [order_eq hv a1 a2 hp'.1 hp'.2 hf q (by omega)]
       simp only [Option.bind_some]
       rw [slack_eq hN hB hDl l3 (hlen5 _ hperm) (hin _ hperm) a1 hp'.1 hp'.2 q (by omega)]
       simp only [Option.bind_some]
       obtain ⟨bA, bB⟩ := best_ok hB _ ⟨a1, 0, a2⟩ hsok (Nat.le_refl _)
       cases hr : (orderV l0 l1 l2 a1 a2).2.2 with
       | false =>
        have h1 := bB hr l3 hperm
        simp only [Bool.false_eq_true, if_false]
        have h1' : sl l0 l2 (duesI l0 l1) l1.length a1 0 l3 < 0 := h1
        rw [if_neg (by decide), if_pos trivial, if_pos h1', known_some]
        rfl
       | true =>
        obtain ⟨s0, s1, _, smax⟩ := bA hr
        obtain ⟨o1, o2, o3⟩ := best_order hB _ hsok hr
        rw [if_pos rfl]
        dsimp only
        have hol := hlen5 _ o1
        obtain ⟨b', hb', hbi'⟩ := isOrder_eq l0 l1 l2 a2 (orderV l0 l1 l2 a1 a2).1 hn0 hn1 hf'.1 (by omega) hol q (by omega)
        obtain rfl : b' = true := hbi'.2 o1
        have hol' : (((orderV l0 l1 l2 a1 a2).1.length : Nat) : Int) ≤ 8 := Int.ofNat_le.2 hol
        have hsl := slack_eq hN hB hDl (orderV l0 l1 l2 a1 a2).1 hol (hin _ o1) a1 hp'.1 hp'.2 q (by omega)
        have ho2 : sl l0 l2 (duesI l0 l1) l1.length a1 0 (orderV l0 l1 l2 a1 a2).1 = (orderV l0 l1 l2 a1 a2).2.1 := o2
        have hm : sl l0 l2 (duesI l0 l1) l1.length a1 0 l3 ≤ (orderV l0 l1 l2 a1 a2).2.1 := smax l3 hperm
        rw [if_pos rfl, if_pos hol', hb']
        simp only [Option.bind_some, if_true]
        rw [hsl]
        simp only [Option.bind_some]
        rw [if_pos ho2, if_pos (show (orderV l0 l1 l2 a1 a2).2.1 ≥ 0 from s0)]
        by_cases hlt : sl l0 l2 (duesI l0 l1) l1.length a1 0 l3 < (orderV l0 l1 l2 a1 a2).2.1
        ·
         rw [if_pos hlt, known_some]
         rfl
        ·
         have heq : sl l0 l2 (duesI l0 l1) l1.length a1 0 l3 = (orderV l0 l1 l2 a1 a2).2.1 := by omega
         have hlx := lex_before _ _ (o3 l3 hperm heq)
         rw [if_neg hlt, if_pos heq, before_eq l3 _ (hlen5 _ hperm) q (by omega)]
         simp only [Option.bind_some]
         have hlx' : beforeB l3 (orderV l0 l1 l2 a1 a2).1 = false := hlx
         rw [hlx', if_neg (by decide), known_some]
         rfl
end Go.Proofs.Ytipphcjgdebecaa.PA
