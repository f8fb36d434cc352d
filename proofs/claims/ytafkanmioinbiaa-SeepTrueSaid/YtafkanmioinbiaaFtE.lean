/- What functions of the program answer. No condition. -/
import Derived.RangeFuncNested
import Derived.RangeFuncBound
import Derived.RangeFuncCalls
import Derived.RangeFuncLeaves
import Derived.RangeFuncBox
import Derived.Shelf.Abstract
import Derived.Shelf.RegionOpen
import Derived.OwnWalkIn
import Derived.TacticsInMore
import Derived.LoopNIn
import Derived.LoopIn
import Derived.Recover
import Derived.Defers
import Derived.WalkLawsBesides
import Derived.WalkSmall
import Derived.Test.YtafkanmioinbiaaFtC
import Derived.Test.YtafkanmioinbiaaSC
import Derived.Test.YtafkanmioinbiaaSD
import Derived.Test.YtafkanmioinbiaaSE
import Derived.Test.YtafkanmioinbiaaSG
import Derived.Test.YtafkanmioinbiaaSH
import Derived.Test.YtafkanmioinbiaaFtD
set_option linter.all false
set_option maxRecDepth 100000
set_option maxHeartbeats 8000000
namespace Go.Proofs.Ytafkanmioinbiaa.SA
open Go.RowKit Go.Shelf Go.Proofs.YtafkanmioinbiaaW.PrintWords Go.Proofs.YtafkanmioinbiaaW.PrintLast Go.Proofs.YtafkanmioinbiaaW.PrintMore
attribute [local go_sem] max2_int min2_int max_two min_two qbe qbf max_four min_four
theorem true_go (p : Int) (l1 : List S44) (l2 l3 : List Int) (l4 : List S41) (l5 : List S95) (A M L : List Int) (P : Nat) (hP : P ≤ 1000) (hp : p = P) (hA : A.length = P) (hM : M.length = P) (hL : L.length = P) (h : ∀ x : Int, 0 ≤ x → x < P → rd M x ≤ rd A x ∧ rd A x ≤ rd L x) :
  ∀ (m i k : Nat), i + m = P → m + 1 ≤ k → taliklaw07_SeepTrue.l0 k ((List.range P).map (spanAt M L)) A M L (i : Int) p l1 l2 l3 l4 l5 = some true := by
 intro m
 induction m with
 | zero =>
  intro i k hi hk
  obtain ⟨k, rfl⟩ : ∃ m, k = m + 1 := ⟨k - 1, by omega⟩
  rw [taliklaw07_SeepTrue.l0]
  rw [if_neg (by omega), known_some]
  rfl
 | succ m ih =>
  intro i k hi hk
  obtain ⟨k, rfl⟩ : ∃ m, k = m + 1 := ⟨k - 1, by omega⟩
  have hx := h (i : Int) (by omega) (by omega)
  rw [taliklaw07_SeepTrue.l0]
  rw [rd_spans M L P (i : Int) (by omega) (by omega)]
  rw [if_pos (by omega), if_pos (by omega), if_pos (by omega), if_pos (by simp; omega), if_neg (by show ¬ rd A (i : Int) < rd M (i : Int); omega), if_neg (by show ¬ rd A (i : Int) > rd L (i : Int); omega), if_pos (by omega), if_pos rfl, if_pos (by omega), if_pos rfl, wsucc i (by omega)]
  exact ih (i + 1) k (by omega) (by omega)
theorem trues_true (q : Nat) (hq : 99 ≤ q) (p : Int) (l1 : List S44) (l2 l3 : List Int) (l4 : List S41) (l5 : List S95) (l ths : List Int) : taliklaw07_SeepTrue.f (q + 1) p l1 l2 l3 l4 l5 l ths = some true := by
 obtain ⟨q, rfl⟩ : ∃ r, q = r + 1 := ⟨q - 1, by omega⟩
 unfold taliklaw07_SeepTrue.f
 rw [short_eq]
 simp only [Option.bind_some]
 have hknown : taliklaw07_SeepTrue.j0 (q + 1 + 1) l ths true p l1 l2 l3 l4 l5 = some true := by
  rw [taliklaw07_SeepTrue.j0]
  rw [if_pos rfl, known_some]
  rfl
 cases hs : shortB l1 l2 l3 l4 l5 with
 | false => rw [if_neg (by simp)]; exact hknown
 | true =>
  rw [if_pos rfl]
  by_cases h1 : (l.length : Int) > 16
  ·
   rw [if_pos h1]; exact hknown
  ·
   rw [if_neg h1]
   by_cases h2 : (ths.length : Int) > 15
   ·
    rw [if_pos h2]; exact hknown
   ·
    have hsh := short_of hs
    rw [if_neg h2, asked_eq]
    simp only [Option.bind_some]
    cases hg : givenB p l1 l2 l3 l4 l5 l with
    | false => rw [if_neg (by simp)]; exact hknown
    | true =>
     rw [if_pos rfl, thaws_eq p l1 l2 l3 l4 l5 ths (by omega) _ (by omega)]
     simp only [Option.bind_some]
     cases hp : playOk l4 ths with
     | false => exact hknown
     | true =>
      have hv := given_valid hg
      have hn4 := (valid_facts hv).n4
      have hpp := (valid_facts hv).pp
      have hpl : ∀ t, playOk l4 t = true → seep_Play.f p l1 l2 l3 l4 l5 l t = some (foulV p.toNat l1 l2 (maskV l) t, 0) := fun t ht => by
       unfold seep_Play.f playV
       rw [hg, ht]
       rfl
      have hye : seep_Years.f p l1 l2 l3 l4 l5 l = some ((List.range p.toNat).map (spanAt (mostY p l1 l2 l4 (maskV l)) (leastY p l1 l2 l4 (maskV l))), 0) := by
       unfold seep_Years.f yearsV
       rw [if_pos hg]
      have hlen : ∀ t, ((foulV p.toNat l1 l2 (maskV l) t).length : Int) = p := fun t => by rw [foulV_length]; omega
      rw [taliklaw07_SeepTrue.j0]
      rw [if_neg (by decide), hye, hpl ths hp, end_hi p l1 l2 l3 l4 l5 (by omega) (q + 1) (by omega), end_lo p l1 l2 l3 l4 l5 (by omega) (q + 1) (by omega)]
      simp only [Option.bind_some]
      rw [hpl _ (playOk_hi hv), hpl _ (playOk_lo hv)]
      simp only [Option.bind_some]
      simp only [if_true]
      rw [if_pos (by simp; omega), if_pos (hlen _), if_pos (hlen _), hlen, show (p != p) = false from by simp]
      rw [taliklaw07_SeepTrue.j1]
      rw [if_neg (by decide)]
      obtain ⟨e1, e2⟩ := playOk_at hp
      refine true_go p l1 l2 l3 l4 l5 _ (mostY p l1 l2 l4 (maskV l)) (leastY p l1 l2 l4 (maskV l)) p.toNat (by omega) (by omega) (foulV_length _ _ _ _ _) (foulV_length _ _ _ _ _) (foulV_length _ _ _ _ _) (fun x h0 h1 => ⟨?_, ?_⟩) p.toNat 0 q (by omega) (by omega)
      ·
       refine foul_le (p' := p) hg hg ths (l4.map (·.f1)) (by simp; omega) (fun y hy => ?_) (fun i hi => ⟨hi, rfl⟩) (fun _ _ h => h) x h0 h1
       rw [rd_map1 l4 y (by omega)]
       exact (e2 y (by omega)).2
      ·
       refine foul_le (p' := p) hg hg (l4.map (·.f0)) ths (by simp; omega) (fun y hy => ?_) (fun i hi => ⟨hi, rfl⟩) (fun _ _ h => h) x h0 h1
       have hy' : y < l4.length := by simpa using hy
       rw [rd_map0 l4 y hy']
       exact (e2 y hy').1
end Go.Proofs.Ytafkanmioinbiaa.SA
