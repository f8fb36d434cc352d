/- Parts of a proof about the pipe seat's laws: what the functions of the program answer. No condition of its own. -/
import Derived.RangeFuncNested
import Derived.RangeFuncBound
import Derived.RangeFuncCalls
import Derived.RangeFuncLeaves
import Derived.RangeFuncBox
import Derived.Shelf.Abstract
import Derived.Shelf.RegionOpen
import Derived.OwnWalkIn
import Derived.TacticsInMore
import Derived.LoopNIn
import Derived.LoopIn
import Derived.Recover
import Derived.Defers
import Derived.WalkLawsBesides
import Derived.WalkSmall
import Derived.Test.YtipphcjgdebecaaPwC
import Derived.Test.YtipphcjgdebecaaSC
import Derived.Test.YtipphcjgdebecaaSE
import Derived.Test.YtipphcjgdebecaaSH
import Derived.Test.YtipphcjgdebecaaSL
import Derived.Test.YtipphcjgdebecaaPwA
import Derived.Test.YtipphcjgdebecaaPwB
import Derived.Test.YtipphcjgdebecaaSF
import Derived.Test.YtipphcjgdebecaaPwD
import Derived.Test.YtipphcjgdebecaaPwE
set_option linter.all false
namespace Go.Proofs.Ytipphcjgdebecaa.PA
open Go.RowKit Go.Shelf Go.Proofs.YtipphcjgdebecaaW.PrintWords Go.Proofs.YtipphcjgdebecaaW.PrintLast Go.Proofs.YtipphcjgdebecaaW.PrintMore
attribute [local go_sem] qbd qbf max_two min_two qay qaz qbe qbg
def rowsW (l0 : List S39) (l1 : List S37) (n : Nat) : List (List S37) := (List.range n).map fun i : Nat => rowW (qaw l0 (i : Int)) l1 l1.length
theorem rowsW_succ (l0 : List S39) (l1 : List S37) (n : Nat) : rowsW l0 l1 (n + 1) = rowsW l0 l1 n ++ [rowW (qaw l0 (n : Int)) l1 l1.length] := by simp [rowsW, List.range_succ]
theorem rowsW_length (l0 : List S39) (l1 : List S37) (n : Nat) : (rowsW l0 l1 n).length = n := by simp [rowsW]
section
variable {l0 : List S39} {l1 : List S37} {l2 : List (List Int)}
theorem pwarmth_go (hN : NetOk l0 l1 l2) : ∀ (m j k : Nat), j + m = l0.length → m + 1 ≤ k → pipe_Warmth.l0 k (rowsW l0 l1 j) (l0.length : Int) (j : Int) l0 l1 l2 = some (rowsW l0 l1 l0.length, 0) := by
 have hn := hN.n1
 have hh := hN.h1
 intro m
 induction m with
 | zero =>
  intro j k hj hk
  obtain ⟨k, rfl⟩ : ∃ k', k = k' + 1 := ⟨k - 1, by omega⟩
  obtain rfl : j = l0.length := by omega
  unfold pipe_Warmth.l0
  rw [if_neg (by omega)]
 | succ m ih =>
  intro j k hj hk
  obtain ⟨k, rfl⟩ : ∃ k', k = k' + 1 := ⟨k - 1, by omega⟩
  have hr := ih (j + 1) k (by omega) (by omega)
  rw [rowsW_succ] at hr
  have hw : pipe_net_warmth.f l0 l1 l2 0 (j : Int) = some (rowW (qaw l0 (j : Int)) l1 l1.length) := by
   unfold pipe_net_warmth.f
   rw [if_pos ⟨by omega, by omega, by decide, by omega⟩, warmthV_eq hN _ (by omega) (by omega)]
  unfold pipe_Warmth.l0
  rw [if_pos (by omega), hw]
  simp only [Option.bind_some]
  rw [rowsW_length, if_pos (by omega), wsucc j (by omega)]
  exact hr
theorem pwarmth_eq (hv : validB l0 l1 l2 = true) (k : Nat) (hk : 10 ≤ k) : pipe_Warmth.f k l0 l1 l2 = some (rowsW l0 l1 l0.length, 0) := by
 have hN := net_ok hv
 have hn := hN.n1
 unfold pipe_Warmth.f
 rw [show pipe_valid.f l0 l1 l2 = some (validB l0 l1 l2) from rfl, hv]
 simp only [Option.bind_some, if_true]
 exact pwarmth_go hN l0.length 0 k (by omega) (by omega)
theorem rwarm1_go (hN : NetOk l0 l1 l2) (x : List (List S37)) (i : Nat) (hi : i < l0.length) (K : Nat) (r : List (List S37)) (hx : x.length ≤ 1000) (hr : ∀ k, K ≤ k → talikref04_Warmth.l0 k (x ++ [rowW (qaw l0 (i : Int)) l1 l1.length]) ((i + 1 : Nat) : Int) l0 l1 l2 = some r) :
  ∀ (m j k : Nat), j + m = l1.length → m + 1 + K + 80 ≤ k → talikref04_Warmth.l1 k x (i : Int) (rowW (qaw l0 (i : Int)) l1 j) ((j + 1 : Nat) : Int) l0 l1 l2 = some r := by
 have hn := hN.n1
 have hh := hN.h1
 intro m
 induction m with
 | zero =>
  intro j k hj hk
  obtain ⟨k, rfl⟩ : ∃ k', k = k' + 1 := ⟨k - 1, by omega⟩
  obtain rfl : j = l1.length := by omega
  unfold talikref04_Warmth.l1
  rw [if_neg (by omega), if_pos (by omega), wsucc i (by omega)]
  exact hr k (by omega)
 | succ m ih =>
  intro j k hj hk
  obtain ⟨k, rfl⟩ : ∃ k', k = k' + 1 := ⟨k - 1, by omega⟩
  have hr := ih (j + 1) k (by omega) (by omega)
  rw [rowW_succ] at hr
  unfold talikref04_Warmth.l1
  rw [if_pos (by omega), warm_eq hN _ (by omega) (by omega) (j + 1) (by omega)]
  simp only [Option.bind_some]
  rw [rowW_length, if_pos (by omega), wsucc (j + 1) (by omega)]
  exact hr
theorem rwarm0_go (hN : NetOk l0 l1 l2) : ∀ (m j k : Nat), j + m = l0.length → 160 * m + 1 ≤ k → talikref04_Warmth.l0 k (rowsW l0 l1 j) (j : Int) l0 l1 l2 = some (rowsW l0 l1 l0.length) := by
 have hn := hN.n1
 have hh := hN.h1
 intro m
 induction m with
 | zero =>
  intro j k hj hk
  obtain ⟨k, rfl⟩ : ∃ k', k = k' + 1 := ⟨k - 1, by omega⟩
  obtain rfl : j = l0.length := by omega
  unfold talikref04_Warmth.l0
  rw [if_neg (by omega)]
 | succ m ih =>
  intro j k hj hk
  obtain ⟨k, rfl⟩ : ∃ k', k = k' + 1 := ⟨k - 1, by omega⟩
  unfold talikref04_Warmth.l0
  rw [if_pos (by omega)]
  refine rwarm1_go hN (rowsW l0 l1 j) j (by omega) (160 * m + 1) _ (by rw [rowsW_length]; omega) (fun k hk => ?_) l1.length 0 k (by omega) (by omega)
  have hr := ih (j + 1) k (by omega) hk
  rw [rowsW_succ] at hr
  exact hr
theorem rwarmth_eq (hN : NetOk l0 l1 l2) (k : Nat) (hk : 900 ≤ k) : talikref04_Warmth.f k l0 l1 l2 = some (rowsW l0 l1 l0.length) := by
 have hn := hN.n1
 exact rwarm0_go hN l0.length 0 k (by omega) (by omega)
end
theorem rd_L6_at (l : List (List S37)) (i : Nat) (h : i < l.length) : rd_L6 l (i : Int) = l[i] := by simp [rd_L6, h]
theorem same1_go (a : List (List S37)) (i : Nat) (hi : i < a.length) (hi2 : i ≤ 1000) (hl : a[i].length ≤ 1000) (K : Nat) (hr : ∀ k, K ≤ k → talikref04_SameSpans.l0 k a a ((i + 1 : Nat) : Int) = some true) :
  ∀ (m j k : Nat), j + m = a[i].length → m + 1 + K ≤ k → talikref04_SameSpans.l1 k a a (i : Int) (j : Int) = some true := by
 intro m
 induction m with
 | zero =>
  intro j k hj hk
  obtain ⟨k, rfl⟩ : ∃ k', k = k' + 1 := ⟨k - 1, by omega⟩
  unfold talikref04_SameSpans.l1
  rw [if_pos (by omega), if_pos (by omega), rd_L6_at a i hi, if_neg (by omega), wsucc i (by omega)]
  exact hr k (by omega)
 | succ m ih =>
  intro j k hj hk
  obtain ⟨k, rfl⟩ : ∃ k', k = k' + 1 := ⟨k - 1, by omega⟩
  unfold talikref04_SameSpans.l1
  rw [if_pos (by omega), if_pos (by omega), rd_L6_at a i hi, if_pos (by omega), if_pos (by omega), if_pos (by omega), if_pos (by omega), if_neg (by simp), wsucc j (by omega)]
  exact ih (j + 1) k (by omega) (by omega)
theorem same0_go (a : List (List S37)) (ha : a.length ≤ 1000) (c : Nat) (hc : c ≤ 1000) (hl : ∀ (i : Nat) (h : i < a.length), a[i].length = c) : ∀ (m i k : Nat), i + m = a.length → (c + 2) * m + 1 ≤ k → talikref04_SameSpans.l0 k a a (i : Int) = some true := by
 intro m
 induction m with
 | zero =>
  intro i k hi hk
  obtain ⟨k, rfl⟩ : ∃ k', k = k' + 1 := ⟨k - 1, by omega⟩
  unfold talikref04_SameSpans.l0
  rw [if_neg (by omega)]
 | succ m ih =>
  intro i k hi hk
  rw [Nat.mul_succ] at hk
  obtain ⟨k, rfl⟩ : ∃ k', k = k' + 1 := ⟨k - 1, by omega⟩
  have hlt : i < a.length := by omega
  have hli := hl i hlt
  unfold talikref04_SameSpans.l0
  rw [if_pos (by omega), if_pos (by omega), if_pos (by omega), if_pos rfl]
  exact same1_go a i hlt (by omega) (by omega) ((c + 2) * m + 1) (fun k hk => ih (i + 1) k (by omega) hk) c 0 k (by omega) (by omega)
theorem samerows (l0 : List S39) (l1 : List S37) (h5 : l0.length ≤ 5) (h72 : l1.length ≤ 72) (k : Nat) (hk : 450 ≤ k) : talikref04_SameSpans.f k (rowsW l0 l1 l0.length) (rowsW l0 l1 l0.length) = some true := by
 unfold talikref04_SameSpans.f
 rw [if_pos rfl]
 have h1 : (l1.length + 2) * l0.length ≤ 74 * 5 := Nat.mul_le_mul (by omega) h5
 exact same0_go _ (by rw [rowsW_length]; omega) l1.length (by omega) (fun i h => by simp [rowsW, rowW_length]) l0.length 0 k (by rw [rowsW_length]; omega) (by omega)
theorem pfreezes_eq (l0 : List S39) (l1 : List S37) (l2 : List (List Int)) (i : Int) :
  pipe_Freezes.f l0 l1 l2 i = some (if (validB l0 l1 l2 && inB i 0 (wrap64 ((l0.length : Int) - 1))) = true then ((frz (warmthV l0 l1 0 i) 0 (-1)).1, (frz (warmthV l0 l1 0 i) 0 (-1)).2, 0) else (0, 0, 2)) := by
 unfold pipe_Freezes.f
 cases hv : validB l0 l1 l2 with
 | false => simp
 | true =>
  have hN := net_ok hv
  have hh := hN.h1
  cases hi : inB i 0 (wrap64 ((l0.length : Int) - 1)) with
  | false => simp
  | true =>
   obtain ⟨i0, i1⟩ := (isloop_iff hN i).1 hi
   rw [if_pos (by decide)]
   unfold pipe_net_freezes.f
   rw [if_pos ⟨i0, i1, by decide, by omega⟩]
   simp
theorem warms_true (q : Nat) (hq : 999 ≤ q) (l0 : List S39) (l1 : List S37) (l2 : List (List Int)) (a1 : Int) : taliklaw04_PipeWarms.f (q + 1) l0 l1 l2 a1 = some true := by
 unfold taliklaw04_PipeWarms.f
 rw [short_eq l0 l1 l2 (q + 1) (by omega)]
 simp only [Option.bind_some]
 cases hs : shortB l0 l1 l2 with
 | false =>
  rw [if_neg (by simp), known_some]
  rfl
 | true =>
  have hsh := short_of hs
  rw [if_pos rfl]
  have hc : pipe_Check.f l0 l1 l2 = some (if validB l0 l1 l2 = true then 0 else 2) := by
   unfold pipe_Check.f
   rw [show pipe_valid.f l0 l1 l2 = some (validB l0 l1 l2) from rfl]
   simp only [Option.bind_some]
   split <;> rfl
  rw [hc, pfreezes_eq, net_eq l0 l1 l2 hsh (q + 1) (by omega)]
  simp only [Option.bind_some]
  cases hv : validB l0 l1 l2 with
  | false =>
   have hw : pipe_Warmth.f (q + 1) l0 l1 l2 = some ([], 2) := by
    unfold pipe_Warmth.f
    rw [show pipe_valid.f l0 l1 l2 = some (validB l0 l1 l2) from rfl, hv]
    rfl
   rw [hw]
   simp [known_some]
  | true =>
   have hN := net_ok hv
   have hn := hN.n1
   have hh := hN.h1
   rw [pwarmth_eq hv (q + 1) (by omega), rwarmth_eq hN (q + 1) (by omega)]
   simp only [Option.bind_some, if_true]
   rw [samerows l0 l1 hn hh (q + 1) (by omega)]
   simp only [Option.bind_some, Bool.true_and]
   rw [taliklaw04_PipeWarms.j0, if_neg (by decide), isloop_eq]
   simp only [Option.bind_some]
   cases hi : inB a1 0 (wrap64 ((l0.length : Int) - 1)) with
   | false => simp [known_some]
   | true =>
    obtain ⟨i0, i1⟩ := (isloop_iff hN a1).1 hi
    rw [if_pos rfl, rfreezes_eq hN a1 i0 i1 q (by omega)]
    simp [known_some]
end Go.Proofs.Ytipphcjgdebecaa.PA
