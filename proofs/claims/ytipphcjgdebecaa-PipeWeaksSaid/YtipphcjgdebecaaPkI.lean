/- What functions of the program answer. No condition. -/
import Derived.RangeFuncNested
import Derived.RangeFuncBound
import Derived.RangeFuncCalls
import Derived.RangeFuncLeaves
import Derived.RangeFuncBox
import Derived.Shelf.Abstract
import Derived.Shelf.RegionOpen
import Derived.OwnWalkIn
import Derived.TacticsInMore
import Derived.LoopNIn
import Derived.LoopIn
import Derived.Recover
import Derived.Defers
import Derived.WalkLawsBesides
import Derived.WalkSmall
import Derived.Test.YtipphcjgdebecaaPkG
import Derived.Test.YtipphcjgdebecaaSC
import Derived.Test.YtipphcjgdebecaaSK
import Derived.Test.YtipphcjgdebecaaSL
import Derived.Test.YtipphcjgdebecaaPkA
import Derived.Test.YtipphcjgdebecaaSF
import Derived.Test.YtipphcjgdebecaaPkC
import Derived.Test.YtipphcjgdebecaaPkD
import Derived.Test.YtipphcjgdebecaaPkH
import Derived.Test.YtipphcjgdebecaaSM
import Derived.Test.YtipphcjgdebecaaSD
import Derived.Deep.Slices
import Derived.Lib.SmallJoins
import Derived.ChangeOld
import Derived.ProofKit
set_option linter.all false
set_option maxRecDepth 100000
set_option maxHeartbeats 8000000
namespace Go.Proofs.Ytipphcjgdebecaa.PA
open Go.RowKit Go.Shelf Go.Proofs.YtipphcjgdebecaaW.PrintWords Go.Proofs.YtipphcjgdebecaaW.PrintLast Go.Proofs.YtipphcjgdebecaaW.PrintMore
attribute [local go_sem] max2_int min2_int max_two min_two qau qav max_four min_four
section
variable {l0 : List S39} {l1 : List S37} {l2 : List (List Int)}
theorem rweak_go (hn4 : l0.length ≤ 4) {a : Int} {fs : List Int} (h : FaultsOk l0 l1 l2 a fs) (s : Int) :
  ∀ (m j k : Nat), j + m = fs.length → m + 44200 ≤ k → ∀ s, talikref04_Weak.l0 k a fs (j : Int) l0 l1 l2 = some (weakP (orderV l0 l1 l2 a) j s (fs.drop j)).1 := by
 have hl := h.len
 intro m
 induction m with
 | zero =>
  intro j k hj hk s
  obtain ⟨k, rfl⟩ : ∃ k', k = k' + 1 := ⟨k - 1, by omega⟩
  unfold talikref04_Weak.l0
  rw [if_neg (by omega), List.drop_eq_nil_of_le (by omega)]
  rfl
 | succ m ih =>
  intro j k hj hk s
  obtain ⟨k, rfl⟩ : ∃ k', k = k' + 1 := ⟨k - 1, by omega⟩
  have hlt : j < fs.length := by omega
  have hfj := h.all _ (List.getElem_mem hlt)
  obtain ⟨y, hy, e1, e2⟩ := rorder_eq h.v hn4 a _ h.a0 h.a1 hfj k (by omega)
  unfold talikref04_Weak.l0
  rw [if_pos (by omega), if_pos (by omega), rd_at fs j hlt, hy, List.drop_eq_getElem_cons hlt, wsucc j (by omega)]
  simp only [Option.bind_some, weakP]
  rw [e1]
  cases hr : (orderV l0 l1 l2 a fs[j]).2.2 with
  | false => simp
  | true =>
   rw [if_pos rfl, if_pos rfl, ih (j + 1) k (by omega) (by omega) (mn s (orderV l0 l1 l2 a fs[j]).2.1)]
   rfl
theorem slack_le (hv : validB l0 l1 l2 = true) {a f : Int} (a0 : 0 ≤ a) (a1 : a ≤ l0.length) (hf : inFault l0 f = true) (hr : (orderV l0 l1 l2 a f).2.2 = true) : (orderV l0 l1 l2 a f).2.1 ≤ l1.length :=
 ((best_ok (bok (net_ok hv)) _ ⟨a, 0, f⟩ (sok (net_ok hv) a0 a1 hf) (Nat.le_refl _)).1 hr).2.1
theorem rleast_go (hn4 : l0.length ≤ 4) {a : Int} {fs : List Int} (h : FaultsOk l0 l1 l2 a fs) :
  ∀ (m j k : Nat) (s : Int), j + m = fs.length → m + 44200 ≤ k → (j = 0 → s = l1.length) → talikref04_Least.l0 k a fs s (j : Int) l0 l1 l2 = some (match leastL (orderV l0 l1 l2 a) s (fs.drop j) with | some m => (m, true) | none => (0, false)) := by
 have hl := h.len
 intro m
 induction m with
 | zero =>
  intro j k s hj hk _
  obtain ⟨k, rfl⟩ : ∃ k', k = k' + 1 := ⟨k - 1, by omega⟩
  unfold talikref04_Least.l0
  rw [if_neg (by omega), List.drop_eq_nil_of_le (by omega)]
  rfl
 | succ m ih =>
  intro j k s hj hk hs
  obtain ⟨k, rfl⟩ : ∃ k', k = k' + 1 := ⟨k - 1, by omega⟩
  have hlt : j < fs.length := by omega
  have hfj := h.all _ (List.getElem_mem hlt)
  obtain ⟨y, hy, e1, e2⟩ := rorder_eq h.v hn4 a _ h.a0 h.a1 hfj k (by omega)
  unfold talikref04_Least.l0
  rw [if_pos (by omega), if_pos (by omega), rd_at fs j hlt, hy, List.drop_eq_getElem_cons hlt, wsucc j (by omega)]
  simp only [Option.bind_some, leastL]
  cases hr : (orderV l0 l1 l2 a fs[j]).2.2 with
  | false =>
   rw [hr] at e1
   rw [e1]
   simp
  | true =>
   rw [hr] at e1
   obtain ⟨_, e4⟩ := e2 e1
   have hle := slack_le h.v h.a0 h.a1 hfj hr
   rw [e1, e4]
   simp only [if_true]
   rw [mn_min]
   by_cases hj0 : (j : Int) = 0
   ·
    rw [if_pos hj0, ih (j + 1) k _ (by omega) (by omega) (by omega)]
    have : min s (orderV l0 l1 l2 a fs[j]).2.1 = (orderV l0 l1 l2 a fs[j]).2.1 := by
     have := hs (by omega)
     omega
    rw [this]
   ·
    rw [if_neg hj0]
    by_cases hlt2 : (orderV l0 l1 l2 a fs[j]).2.1 < s
    ·
     rw [if_pos hlt2, ih (j + 1) k _ (by omega) (by omega) (by omega)]
     have : min s (orderV l0 l1 l2 a fs[j]).2.1 = (orderV l0 l1 l2 a fs[j]).2.1 := by omega
     rw [this]
    ·
     rw [if_neg hlt2, ih (j + 1) k _ (by omega) (by omega) (by omega)]
     have : min s (orderV l0 l1 l2 a fs[j]).2.1 = s := by omega
     rw [this]
def PostI (L : Int → Option Int) (p b mo : Int) : Prop :=
 (b = -1 ∧ mo = 0 ∧ ∀ q : Int, 0 ≤ q → q < p → L q = none) ∨ (0 ≤ b ∧ b < p ∧ L b = some mo ∧ ∀ q m : Int, 0 ≤ q → q < p → L q = some m → m ≤ mo ∧ (m = mo → b ≤ q))
theorem rpost_go (hn4 : l0.length ≤ 4) {fs : List Int} (h : ∀ p : Int, 0 ≤ p → p ≤ l0.length → FaultsOk l0 l1 l2 p fs) (hl : fs.length ≤ 12) :
  ∀ (m p k : Nat) (b mo : Int), p + m = l0.length + 1 → m + 44300 ≤ k → PostI (fun q => leastL (orderV l0 l1 l2 q) l1.length fs) p b mo → ∃ b' mo', talikref04_Post.l0 k fs b mo (p : Int) l0 l1 l2 = some (b', mo', decide (b' ≥ 0)) ∧ PostI (fun q => leastL (orderV l0 l1 l2 q) l1.length fs) ((l0.length + 1 : Nat) : Int) b' mo' := by
 intro m
 induction m with
 | zero =>
  intro p k b mo hp hk hI
  obtain ⟨k, rfl⟩ : ∃ k', k = k' + 1 := ⟨k - 1, by omega⟩
  obtain rfl : p = l0.length + 1 := by omega
  unfold talikref04_Post.l0
  rw [if_neg (by omega)]
  exact ⟨b, mo, rfl, hI⟩
 | succ m ih =>
  intro p k b mo hp hk hI
  obtain ⟨k, rfl⟩ : ∃ k', k = k' + 1 := ⟨k - 1, by omega⟩
  have hok := h p (by omega) (by omega)
  have hle : talikref04_Least.f k l0 l1 l2 (p : Int) fs = some (match leastL (orderV l0 l1 l2 p) l1.length fs with | some m => (m, true) | none => (0, false)) := by
   have h1 := rleast_go hn4 hok fs.length 0 k (l1.length : Int) (by omega) (by omega) (fun _ => rfl)
   simpa [talikref04_Least.f] using h1
  unfold talikref04_Post.l0
  rw [if_pos (by omega), hle, wsucc p (by omega)]
  simp only [Option.bind_some]
  cases hL : leastL (orderV l0 l1 l2 p) l1.length fs with
  | none =>
   simp only [Bool.false_eq_true, if_false]
   refine ih (p + 1) k b mo (by omega) (by omega) ?_
   rcases hI with ⟨h1, h2, h3⟩ | ⟨h1, h2, h3, h4⟩
   ·
    exact .inl ⟨h1, h2, fun q q0 q1 => by
     by_cases hq : q = p
     ·
      rw [hq]; exact hL
     ·
      exact h3 q q0 (by omega)⟩
   ·
    refine .inr ⟨h1, by omega, h3, fun q m q0 q1 hq => ?_⟩
    by_cases he : q = p
    ·
     subst he
     have hq' : leastL (orderV l0 l1 l2 p) l1.length fs = some m := hq
     rw [hL] at hq'
     cases hq'
    ·
     exact h4 q m q0 (by omega) hq
  | some s =>
   simp only [if_true]
   have hnew : (∀ q m : Int, 0 ≤ q → q < p → leastL (orderV l0 l1 l2 q) l1.length fs = some m → m < s) → PostI (fun q => leastL (orderV l0 l1 l2 q) l1.length fs) ((p + 1 : Nat) : Int) p s := fun hb => by
    refine .inr ⟨by omega, by omega, hL, fun q m q0 q1 hq => ?_⟩
    by_cases he : q = p
    ·
     subst he
     have hq' : leastL (orderV l0 l1 l2 p) l1.length fs = some m := hq
     rw [hL] at hq'
     cases hq'
     exact ⟨Int.le_refl _, fun _ => Int.le_refl _⟩
    ·
     have := hb q m q0 (by omega) hq
     exact ⟨by omega, fun h => by omega⟩
   rcases hI with ⟨h1, h2, h3⟩ | ⟨h1, h2, h3, h4⟩
   ·
    rw [if_pos (by omega)]
    refine ih (p + 1) k p s (by omega) (by omega) (hnew fun q m q0 q1 hq => ?_)
    have := h3 q q0 q1
    have hq' : leastL (orderV l0 l1 l2 q) l1.length fs = none := this
    rw [hq'] at hq
    cases hq
   ·
    rw [if_neg (by omega)]
    by_cases hs : s > mo
    ·
     rw [if_pos hs]
     refine ih (p + 1) k p s (by omega) (by omega) (hnew fun q m q0 q1 hq => ?_)
     have := (h4 q m q0 q1 hq).1
     omega
    ·
     rw [if_neg hs]
     refine ih (p + 1) k b mo (by omega) (by omega) (.inr ⟨h1, by omega, h3, fun q m q0 q1 hq => ?_⟩)
     by_cases he : q = p
     ·
      subst he
      have hq' : leastL (orderV l0 l1 l2 p) l1.length fs = some m := hq
      rw [hL] at hq'
      cases hq'
      exact ⟨by omega, fun _ => by omega⟩
     ·
      exact h4 q m q0 (by omega) hq
theorem rpost_eq (hn4 : l0.length ≤ 4) {fs : List Int} (hok : FaultsOk l0 l1 l2 0 fs) (k : Nat) (hk : 44400 ≤ k) :
  (∃ b mo, talikref04_Post.f k l0 l1 l2 fs = some (b, mo, false) ∧ postV l0 l1 l2 fs = (0, 0, 5)) ∨ (∃ p s, talikref04_Post.f k l0 l1 l2 fs = some (p, s, true) ∧ postV l0 l1 l2 fs = (p, s, 0)) := by
 have hat : ∀ p : Int, 0 ≤ p → p ≤ l0.length → FaultsOk l0 l1 l2 p fs := fun p h0 h1 => ⟨hok.len, hok.v, h0, h1, hok.all⟩
 obtain ⟨b, mo, h1, hI⟩ := rpost_go hn4 hat hok.len (l0.length + 1) 0 k (-1) 0 (by omega) (by omega) (.inl ⟨rfl, rfl, fun q q0 q1 => by omega⟩)
 have h1' : talikref04_Post.f k l0 l1 l2 fs = some (b, mo, decide (b ≥ 0)) := h1
 rcases post_eq hok with ⟨hno, hp⟩ | ⟨p, s, p0, p1, hps, hp, hbest⟩
 ·
  left
  rcases hI with ⟨e1, e2, e3⟩ | ⟨e1, e2, e3, e4⟩
  ·
   exact ⟨b, mo, by rw [h1', decide_eq_false (by omega)], hp⟩
  ·
   have := hno b e1 (by omega)
   have e3' : leastL (orderV l0 l1 l2 b) l1.length fs = some mo := e3
   rw [this] at e3'
   cases e3'
 ·
  right
  rcases hI with ⟨e1, e2, e3⟩ | ⟨e1, e2, e3, e4⟩
  ·
   have := e3 p p0 (by omega)
   have e3' : leastL (orderV l0 l1 l2 p) l1.length fs = none := this
   rw [hps] at e3'
   cases e3'
  ·
   have e3' : leastL (orderV l0 l1 l2 b) l1.length fs = some mo := e3
   have a1 := hbest b mo e1 (by omega) e3'
   have a2 := e4 p s p0 (by omega) hps
   have hm : mo = s := by omega
   have hb : b = p := by
    have := a1.2 hm
    have := a2.2 hm.symm
    omega
   subst hm
   subst hb
   exact ⟨b, mo, by rw [h1', decide_eq_true e1], hp⟩
end
theorem pweak_eq (l0 : List S39) (l1 : List S37) (l2 : List (List Int)) (a : Int) (fs : List Int) (k : Nat) (hk : 20 ≤ k) :
  pipe_Weak.f k l0 l1 l2 a fs = some (if faultedV l0 l1 l2 a fs = 0 then ((weakP (orderV l0 l1 l2 a) 0 l1.length fs).1, 0) else (0, faultedV l0 l1 l2 a fs)) := by
 unfold pipe_Weak.f
 rw [show pipe_given.f l0 l1 l2 a fs = some (givenV l0 l1 l2 a fs) from rfl, given_same]
 simp only [Option.bind_some]
 split
 ·
  rename_i hz
  rw [weak0_eq (faults_ok hz) k (by omega)]
  rfl
 ·
  rfl
theorem taliklaw04_PipeWeaks.calls (A0_0 : Option Addr) (c0_0 : Nat) (l0_0 : List S39) (A0_1 : Option Addr) (c0_1 : Nat) (l0_1 : List S37) (A0_2 : Option Addr) (c0_2 : Nat) (l0_2 : List (List Int)) (a1 : Int) (A2 : Option Addr) (c2 : Nat) (l2 : List Int) (r : Bool) (w : World) (hr0_0 : Kd.C k39 w A0_0 l0_0.length l0_0) (hc0_0 : l0_0.length ≤ c0_0) (hr0_1 : Kd.C k37 w A0_1 l0_1.length l0_1) (hc0_1 : l0_1.length ≤ c0_1) (hr0_2 : Kd.C (Kd.slice 3 (Kd.int .i64)) w A0_2 l0_2.length l0_2) (hc0_2 : l0_2.length ≤ c0_2) (hr2 : Kd.C (Kd.int .i64) w A2 l2.length l2) (hc2 : l2.length ≤ c2) (h : (some true : Option Bool) = some r) : Calls Try.prog 11 #[.agg #[.slice A0_0 l0_0.length c0_0, .slice A0_1 l0_1.length c0_1, .slice A0_2 l0_2.length c0_2], .int .i64 a1, .slice A2 l2.length c2] w fun e w' => e = .returned (.bool r) ∧ Below w.heap.size w w' := by
 obtain rfl := Option.some.inj h; clear h; have hu26 := Try.underlying26; have HB := qab.mk (Below.refl w.heap.size w); have HR0 := qab.mk hr0_0; have HR1 := qab.mk hr0_1; have HR2 := qab.mk hr0_2; clear hr0_0 hr0_1 hr0_2
 have HRL := qab.mk hr2
 clear hr2
 have HSHORT : qab (∀ W, Below w.heap.size w W → Calls Try.prog 16 #[.agg #[.slice A0_0 l0_0.length c0_0, .slice A0_1 l0_1.length c0_1, .slice A0_2 l0_2.length c0_2]] W fun e w' => e = .returned (.bool (shortB l0_0 l0_1 l0_2)) ∧ Below W.heap.size W w') := ⟨fun W hW => (taliklaw04_short.calls 30 _ _ l0_0 _ _ l0_1 _ _ l0_2 _ W (Kd.qak HR0.out hW) hc0_0 (Kd.qak HR1.out hW) hc0_1 (Kd.qak HR2.out hW) hc0_2 (short_eq l0_0 l0_1 l0_2 30 (by omega))).mono fun e w' ⟨h1, h2⟩ => ⟨h1, h2⟩⟩
 have HKNOWN : qab (∀ W, Below w.heap.size w W → Calls Try.prog 17 #[] W fun e w' => e = .returned (.bool true) ∧ Below W.heap.size W w') := ⟨fun W hW => taliklaw04_known.calls true W rfl⟩
 cases hs : shortB l0_0 l0_1 l0_2 with
 | false =>
  rw [hs] at HSHORT
  go_enter Try.func11, Try.ntmps11
  go_wp2_with (first | (with_reducible refine qaq (N := 3) rfl ?_); refine qam ?hg (N := 3) ?hd (cs := #[.slice A0_0 l0_0.length c0_0, .slice A0_1 l0_1.length c0_1, .slice A0_2 l0_2.length c0_2]) (t := 26) ?hr ?_; (case hd => rfl); (case hg => rfl); (case hr => first | (go_simp; done) | (go_simp; rfl)); intro gb hg_gb w2 hbox hb; have BKgb := qab.mk hbox; have n_HB := qab.mk (qag HB.out hb); have GEgb : w.heap.size ≤ gb := (by rw [hg_gb]; exact HB.out.size); clear HB; have HB := n_HB; clear n_HB; have hfgb := qac BKgb.out; have hcgb_0 : w2.cell? ⟨gb, 0, none⟩ = some (.slice A0_0 l0_0.length c0_0) := (qaa BKgb.out 0).trans rfl; have hcgb_1 : w2.cell? ⟨gb, 1, none⟩ = some (.slice A0_1 l0_1.length c0_1) := (qaa BKgb.out 1).trans rfl; have hcgb_2 : w2.cell? ⟨gb, 2, none⟩ = some (.slice A0_2 l0_2.length c0_2) := (qaa BKgb.out 2).trans rfl; clear hbox hb hg_gb | (go_at_call 16; with_reducible refine (HSHORT.out _ HB.out).mono ?_; rintro e wn ⟨rfl, hb⟩; have n_BKgb := qab.mk (qah BKgb.out hb); clear BKgb; have BKgb := n_BKgb; clear n_BKgb; have n_HB := qab.mk (qag HB.out hb); clear HB; have HB := n_HB; clear n_HB; clear hb; have hfgb := qac BKgb.out; have hcgb_0 : wn.cell? ⟨gb, 0, none⟩ = some (.slice A0_0 l0_0.length c0_0) := (qaa BKgb.out 0).trans rfl; have hcgb_1 : wn.cell? ⟨gb, 1, none⟩ = some (.slice A0_1 l0_1.length c0_1) := (qaa BKgb.out 1).trans rfl; have hcgb_2 : wn.cell? ⟨gb, 2, none⟩ = some (.slice A0_2 l0_2.length c0_2) := (qaa BKgb.out 2).trans rfl) | (go_at_call 17; with_reducible refine (HKNOWN.out _ HB.out).mono ?_; rintro e wn ⟨rfl, hb⟩; have n_BKgb := qab.mk (qah BKgb.out hb); clear BKgb; have BKgb := n_BKgb; clear n_BKgb; have n_HB := qab.mk (qag HB.out hb); clear HB; have HB := n_HB; clear n_HB; clear hb; have hfgb := qac BKgb.out; have hcgb_0 : wn.cell? ⟨gb, 0, none⟩ = some (.slice A0_0 l0_0.length c0_0) := (qaa BKgb.out 0).trans rfl; have hcgb_1 : wn.cell? ⟨gb, 1, none⟩ = some (.slice A0_1 l0_1.length c0_1) := (qaa BKgb.out 1).trans rfl; have hcgb_2 : wn.cell? ⟨gb, 2, none⟩ = some (.slice A0_2 l0_2.length c0_2) := (qaa BKgb.out 2).trans rfl))
  go_ret
  exact ⟨rfl, HB.out⟩
 | true =>
  have hsh := short_of hs
  rw [hs] at HSHORT
  clear hs
  have HNET : qab (∀ W, Below w.heap.size w W → Calls Try.prog 19 #[.agg #[.slice A0_0 l0_0.length c0_0, .slice A0_1 l0_1.length c0_1, .slice A0_2 l0_2.length c0_2]] W fun e w' => e = .returned (.bool (validB l0_0 l0_1 l0_2)) ∧ Below W.heap.size W w') := ⟨fun W hW => (talikref04_Net.calls _ _ l0_0 _ _ l0_1 _ _ l0_2 _ W (Kd.qak HR0.out hW) hc0_0 (Kd.qak HR1.out hW) hc0_1 (Kd.qak HR2.out hW) hc0_2 (net_eq l0_0 l0_1 l0_2 hsh 300 (by omega))).mono fun e w' ⟨h1, h2⟩ => ⟨h1, h2⟩⟩
  have hbad : ∀ b, b = validB l0_0 l0_1 l0_2 → b = true → (3 : Int) < l0_0.length → Calls Try.prog 11 #[.agg #[.slice A0_0 l0_0.length c0_0, .slice A0_1 l0_1.length c0_1, .slice A0_2 l0_2.length c0_2], .int .i64 a1, .slice A2 l2.length c2] w fun e w' => e = .returned (.bool true) ∧ Below w.heap.size w w' := by
   intro b hb ht h3
   rw [← hb, ht] at HNET
   have d1 : decide ((3 : Int) < l0_0.length) = true := decide_eq_true h3
   clear hb ht h3
   go_enter Try.func11, Try.ntmps11
   go_wp2_with (first | (with_reducible refine qaq (N := 3) rfl ?_); refine qam ?hg (N := 3) ?hd (cs := #[.slice A0_0 l0_0.length c0_0, .slice A0_1 l0_1.length c0_1, .slice A0_2 l0_2.length c0_2]) (t := 26) ?hr ?_; (case hd => rfl); (case hg => rfl); (case hr => first | (go_simp; done) | (go_simp; rfl)); intro gb hg_gb w2 hbox hb; have BKgb := qab.mk hbox; have n_HB := qab.mk (qag HB.out hb); have GEgb : w.heap.size ≤ gb := (by rw [hg_gb]; exact HB.out.size); clear HB; have HB := n_HB; clear n_HB; have hfgb := qac BKgb.out; have hcgb_0 : w2.cell? ⟨gb, 0, none⟩ = some (.slice A0_0 l0_0.length c0_0) := (qaa BKgb.out 0).trans rfl; have hcgb_1 : w2.cell? ⟨gb, 1, none⟩ = some (.slice A0_1 l0_1.length c0_1) := (qaa BKgb.out 1).trans rfl; have hcgb_2 : w2.cell? ⟨gb, 2, none⟩ = some (.slice A0_2 l0_2.length c0_2) := (qaa BKgb.out 2).trans rfl; clear hbox hb hg_gb | (go_at_call 16; with_reducible refine (HSHORT.out _ HB.out).mono ?_; rintro e wn ⟨rfl, hb⟩; have n_BKgb := qab.mk (qah BKgb.out hb); clear BKgb; have BKgb := n_BKgb; clear n_BKgb; have n_HB := qab.mk (qag HB.out hb); clear HB; have HB := n_HB; clear n_HB; clear hb; have hfgb := qac BKgb.out; have hcgb_0 : wn.cell? ⟨gb, 0, none⟩ = some (.slice A0_0 l0_0.length c0_0) := (qaa BKgb.out 0).trans rfl; have hcgb_1 : wn.cell? ⟨gb, 1, none⟩ = some (.slice A0_1 l0_1.length c0_1) := (qaa BKgb.out 1).trans rfl; have hcgb_2 : wn.cell? ⟨gb, 2, none⟩ = some (.slice A0_2 l0_2.length c0_2) := (qaa BKgb.out 2).trans rfl) | (go_at_call 19; with_reducible refine (HNET.out _ HB.out).mono ?_; rintro e wn ⟨rfl, hb⟩; have n_BKgb := qab.mk (qah BKgb.out hb); clear BKgb; have BKgb := n_BKgb; clear n_BKgb; have n_HB := qab.mk (qag HB.out hb); clear HB; have HB := n_HB; clear n_HB; clear hb; have hfgb := qac BKgb.out; have hcgb_0 : wn.cell? ⟨gb, 0, none⟩ = some (.slice A0_0 l0_0.length c0_0) := (qaa BKgb.out 0).trans rfl; have hcgb_1 : wn.cell? ⟨gb, 1, none⟩ = some (.slice A0_1 l0_1.length c0_1) := (qaa BKgb.out 1).trans rfl; have hcgb_2 : wn.cell? ⟨gb, 2, none⟩ = some (.slice A0_2 l0_2.length c0_2) := (qaa BKgb.out 2).trans rfl) | (go_at_call 17; with_reducible refine (HKNOWN.out _ HB.out).mono ?_; rintro e wn ⟨rfl, hb⟩; have n_BKgb := qab.mk (qah BKgb.out hb); clear BKgb; have BKgb := n_BKgb; clear n_BKgb; have n_HB := qab.mk (qag HB.out hb); clear HB; have HB := n_HB; clear n_HB; clear hb; have hfgb := qac BKgb.out; have hcgb_0 : wn.cell? ⟨gb, 0, none⟩ = some (.slice A0_0 l0_0.length c0_0) := (qaa BKgb.out 0).trans rfl; have hcgb_1 : wn.cell? ⟨gb, 1, none⟩ = some (.slice A0_1 l0_1.length c0_1) := (qaa BKgb.out 1).trans rfl; have hcgb_2 : wn.cell? ⟨gb, 2, none⟩ = some (.slice A0_2 l0_2.length c0_2) := (qaa BKgb.out 2).trans rfl))
   go_ret
   exact ⟨rfl, HB.out⟩
  by_cases h3 : validB l0_0 l0_1 l0_2 = true → l0_0.length ≤ 3
  case neg =>
   have h4 : validB l0_0 l0_1 l0_2 = true ∧ ¬ l0_0.length ≤ 3 := Classical.not_imp.1 h3
   exact hbad _ rfl h4.1 (by omega)
  case pos =>
   clear hbad
   obtain ⟨bv, hbv⟩ : ∃ b, b = validB l0_0 l0_1 l0_2 := ⟨_, rfl⟩
   rw [← hbv] at HNET h3
   have H3 := qab.mk h3
   have d3 : bv = true → decide ((3 : Int) < l0_0.length) = false := fun h => decide_eq_false (by have := h3 h; omega)
   by_cases hl : (17 : Int) < l2.length
   ·
    have d1 : decide ((17 : Int) < l2.length) = true := decide_eq_true hl
    clear hbv H3 h3 hl
    cases bv with
    | false =>
     clear d3
     go_enter Try.func11, Try.ntmps11
     go_wp2_with (first | (with_reducible refine qaq (N := 3) rfl ?_); refine qam ?hg (N := 3) ?hd (cs := #[.slice A0_0 l0_0.length c0_0, .slice A0_1 l0_1.length c0_1, .slice A0_2 l0_2.length c0_2]) (t := 26) ?hr ?_; (case hd => rfl); (case hg => rfl); (case hr => first | (go_simp; done) | (go_simp; rfl)); intro gb hg_gb w2 hbox hb; have BKgb := qab.mk hbox; have n_HB := qab.mk (qag HB.out hb); have GEgb : w.heap.size ≤ gb := (by rw [hg_gb]; exact HB.out.size); clear HB; have HB := n_HB; clear n_HB; have hfgb := qac BKgb.out; have hcgb_0 : w2.cell? ⟨gb, 0, none⟩ = some (.slice A0_0 l0_0.length c0_0) := (qaa BKgb.out 0).trans rfl; have hcgb_1 : w2.cell? ⟨gb, 1, none⟩ = some (.slice A0_1 l0_1.length c0_1) := (qaa BKgb.out 1).trans rfl; have hcgb_2 : w2.cell? ⟨gb, 2, none⟩ = some (.slice A0_2 l0_2.length c0_2) := (qaa BKgb.out 2).trans rfl; clear hbox hb hg_gb | (go_at_call 16; with_reducible refine (HSHORT.out _ HB.out).mono ?_; rintro e wn ⟨rfl, hb⟩; have n_BKgb := qab.mk (qah BKgb.out hb); clear BKgb; have BKgb := n_BKgb; clear n_BKgb; have n_HB := qab.mk (qag HB.out hb); clear HB; have HB := n_HB; clear n_HB; clear hb; have hfgb := qac BKgb.out; have hcgb_0 : wn.cell? ⟨gb, 0, none⟩ = some (.slice A0_0 l0_0.length c0_0) := (qaa BKgb.out 0).trans rfl; have hcgb_1 : wn.cell? ⟨gb, 1, none⟩ = some (.slice A0_1 l0_1.length c0_1) := (qaa BKgb.out 1).trans rfl; have hcgb_2 : wn.cell? ⟨gb, 2, none⟩ = some (.slice A0_2 l0_2.length c0_2) := (qaa BKgb.out 2).trans rfl) | (go_at_call 19; with_reducible refine (HNET.out _ HB.out).mono ?_; rintro e wn ⟨rfl, hb⟩; have n_BKgb := qab.mk (qah BKgb.out hb); clear BKgb; have BKgb := n_BKgb; clear n_BKgb; have n_HB := qab.mk (qag HB.out hb); clear HB; have HB := n_HB; clear n_HB; clear hb; have hfgb := qac BKgb.out; have hcgb_0 : wn.cell? ⟨gb, 0, none⟩ = some (.slice A0_0 l0_0.length c0_0) := (qaa BKgb.out 0).trans rfl; have hcgb_1 : wn.cell? ⟨gb, 1, none⟩ = some (.slice A0_1 l0_1.length c0_1) := (qaa BKgb.out 1).trans rfl; have hcgb_2 : wn.cell? ⟨gb, 2, none⟩ = some (.slice A0_2 l0_2.length c0_2) := (qaa BKgb.out 2).trans rfl) | (go_at_call 17; with_reducible refine (HKNOWN.out _ HB.out).mono ?_; rintro e wn ⟨rfl, hb⟩; have n_BKgb := qab.mk (qah BKgb.out hb); clear BKgb; have BKgb := n_BKgb; clear n_BKgb; have n_HB := qab.mk (qag HB.out hb); clear HB; have HB := n_HB; clear n_HB; clear hb; have hfgb := qac BKgb.out; have hcgb_0 : wn.cell? ⟨gb, 0, none⟩ = some (.slice A0_0 l0_0.length c0_0) := (qaa BKgb.out 0).trans rfl; have hcgb_1 : wn.cell? ⟨gb, 1, none⟩ = some (.slice A0_1 l0_1.length c0_1) := (qaa BKgb.out 1).trans rfl; have hcgb_2 : wn.cell? ⟨gb, 2, none⟩ = some (.slice A0_2 l0_2.length c0_2) := (qaa BKgb.out 2).trans rfl))
     go_ret
     exact ⟨rfl, HB.out⟩
    | true =>
     have d3 := d3 rfl
     go_enter Try.func11, Try.ntmps11
     go_wp2_with (first | (with_reducible refine qaq (N := 3) rfl ?_); refine qam ?hg (N := 3) ?hd (cs := #[.slice A0_0 l0_0.length c0_0, .slice A0_1 l0_1.length c0_1, .slice A0_2 l0_2.length c0_2]) (t := 26) ?hr ?_; (case hd => rfl); (case hg => rfl); (case hr => first | (go_simp; done) | (go_simp; rfl)); intro gb hg_gb w2 hbox hb; have BKgb := qab.mk hbox; have n_HB := qab.mk (qag HB.out hb); have GEgb : w.heap.size ≤ gb := (by rw [hg_gb]; exact HB.out.size); clear HB; have HB := n_HB; clear n_HB; have hfgb := qac BKgb.out; have hcgb_0 : w2.cell? ⟨gb, 0, none⟩ = some (.slice A0_0 l0_0.length c0_0) := (qaa BKgb.out 0).trans rfl; have hcgb_1 : w2.cell? ⟨gb, 1, none⟩ = some (.slice A0_1 l0_1.length c0_1) := (qaa BKgb.out 1).trans rfl; have hcgb_2 : w2.cell? ⟨gb, 2, none⟩ = some (.slice A0_2 l0_2.length c0_2) := (qaa BKgb.out 2).trans rfl; clear hbox hb hg_gb | (go_at_call 16; with_reducible refine (HSHORT.out _ HB.out).mono ?_; rintro e wn ⟨rfl, hb⟩; have n_BKgb := qab.mk (qah BKgb.out hb); clear BKgb; have BKgb := n_BKgb; clear n_BKgb; have n_HB := qab.mk (qag HB.out hb); clear HB; have HB := n_HB; clear n_HB; clear hb; have hfgb := qac BKgb.out; have hcgb_0 : wn.cell? ⟨gb, 0, none⟩ = some (.slice A0_0 l0_0.length c0_0) := (qaa BKgb.out 0).trans rfl; have hcgb_1 : wn.cell? ⟨gb, 1, none⟩ = some (.slice A0_1 l0_1.length c0_1) := (qaa BKgb.out 1).trans rfl; have hcgb_2 : wn.cell? ⟨gb, 2, none⟩ = some (.slice A0_2 l0_2.length c0_2) := (qaa BKgb.out 2).trans rfl) | (go_at_call 19; with_reducible refine (HNET.out _ HB.out).mono ?_; rintro e wn ⟨rfl, hb⟩; have n_BKgb := qab.mk (qah BKgb.out hb); clear BKgb; have BKgb := n_BKgb; clear n_BKgb; have n_HB := qab.mk (qag HB.out hb); clear HB; have HB := n_HB; clear n_HB; clear hb; have hfgb := qac BKgb.out; have hcgb_0 : wn.cell? ⟨gb, 0, none⟩ = some (.slice A0_0 l0_0.length c0_0) := (qaa BKgb.out 0).trans rfl; have hcgb_1 : wn.cell? ⟨gb, 1, none⟩ = some (.slice A0_1 l0_1.length c0_1) := (qaa BKgb.out 1).trans rfl; have hcgb_2 : wn.cell? ⟨gb, 2, none⟩ = some (.slice A0_2 l0_2.length c0_2) := (qaa BKgb.out 2).trans rfl) | (go_at_call 17; with_reducible refine (HKNOWN.out _ HB.out).mono ?_; rintro e wn ⟨rfl, hb⟩; have n_BKgb := qab.mk (qah BKgb.out hb); clear BKgb; have BKgb := n_BKgb; clear n_BKgb; have n_HB := qab.mk (qag HB.out hb); clear HB; have HB := n_HB; clear n_HB; clear hb; have hfgb := qac BKgb.out; have hcgb_0 : wn.cell? ⟨gb, 0, none⟩ = some (.slice A0_0 l0_0.length c0_0) := (qaa BKgb.out 0).trans rfl; have hcgb_1 : wn.cell? ⟨gb, 1, none⟩ = some (.slice A0_1 l0_1.length c0_1) := (qaa BKgb.out 1).trans rfl; have hcgb_2 : wn.cell? ⟨gb, 2, none⟩ = some (.slice A0_2 l0_2.length c0_2) := (qaa BKgb.out 2).trans rfl))
     go_ret
     exact ⟨rfl, HB.out⟩
   ·
    have d1 : decide ((17 : Int) < l2.length) = false := decide_eq_false hl
    obtain ⟨z1, hz1⟩ : ∃ z, z = faultedV l0_0 l0_1 l0_2 a1 l2 := ⟨_, rfl⟩
    obtain ⟨z0, hz0⟩ : ∃ z, z = faultedV l0_0 l0_1 l0_2 0 l2 := ⟨_, rfl⟩
    obtain ⟨k1, hk1⟩ : ∃ x, x = (weakP (orderV l0_0 l0_1 l0_2 a1) 0 l0_1.length l2).1 := ⟨_, rfl⟩
    have HW : qab (∀ W, Below w.heap.size w W → Calls Try.prog 44 #[.agg #[.slice A0_0 l0_0.length c0_0, .slice A0_1 l0_1.length c0_1, .slice A0_2 l0_2.length c0_2], .int .i64 a1, .slice A2 l2.length c2] W fun e w' => e = .returned (.tuple #[.int .i64 (if z1 = 0 then (k1, 0) else (0, z1)).1, .int .i64 (if z1 = 0 then (k1, (0 : Int)) else (0, z1)).2]) ∧ Below W.heap.size W w') := ⟨fun W hW => pipe_Weak.calls 20 _ _ l0_0 _ _ l0_1 _ _ l0_2 a1 _ _ l2 _ _ W (Kd.qak HR0.out hW) hc0_0 (Kd.qak HR1.out hW) hc0_1 (Kd.qak HR2.out hW) hc0_2 (Kd.qak HRL.out hW) hc2 (by rw [pweak_eq _ _ _ _ _ 20 (by omega), ← hz1, ← hk1])⟩
    have HP : qab (∀ W, Below w.heap.size w W → Calls Try.prog 37 #[.agg #[.slice A0_0 l0_0.length c0_0, .slice A0_1 l0_1.length c0_1, .slice A0_2 l0_2.length c0_2], .slice A2 l2.length c2] W fun e w' => e = .returned (.tuple #[.int .i64 (postV l0_0 l0_1 l0_2 l2).1, .int .i64 (postV l0_0 l0_1 l0_2 l2).2.1, .int .i64 (postV l0_0 l0_1 l0_2 l2).2.2]) ∧ Below W.heap.size W w') := ⟨fun W hW => pipe_Post.calls _ _ l0_0 _ _ l0_1 _ _ l0_2 _ _ l2 _ _ _ W (Kd.qak HR0.out hW) hc0_0 (Kd.qak HR1.out hW) hc0_1 (Kd.qak HR2.out hW) hc0_2 (Kd.qak HRL.out hW) hc2 rfl⟩
    have HF : qab (∀ x W, Below w.heap.size w W → Calls Try.prog 36 #[.agg #[.slice A0_0 l0_0.length c0_0, .slice A0_1 l0_1.length c0_1, .slice A0_2 l0_2.length c0_2], .int .i64 x, .slice A2 l2.length c2] W fun e w' => e = .returned (.int .i64 (faultedV l0_0 l0_1 l0_2 x l2)) ∧ Below W.heap.size W w') := ⟨fun x W hW => taliklaw04_faulted.calls 300 _ _ l0_0 _ _ l0_1 _ _ l0_2 x _ _ l2 _ W (Kd.qak HR0.out hW) hc0_0 (Kd.qak HR1.out hW) hc0_1 (Kd.qak HR2.out hW) hc0_2 (Kd.qak HRL.out hW) hc2 (faulted_eq l0_0 l0_1 l0_2 hsh x l2 300 (by omega))⟩
    have HF1 := qab.mk (HF.out a1)
    have HF0 := qab.mk (HF.out 0)
    clear HF
    have HRWZ : z1 = 0 → qab (∀ W, Below w.heap.size w W → Calls Try.prog 45 #[.agg #[.slice A0_0 l0_0.length c0_0, .slice A0_1 l0_1.length c0_1, .slice A0_2 l0_2.length c0_2], .int .i64 a1, .slice A2 l2.length c2] W fun e w' => e = .returned (.int .i64 k1) ∧ Below W.heap.size W w') := fun hz => by
     have hok := faults_ok (hz1.symm.trans hz)
     have hn3 := h3 (hbv.trans hok.v)
     have hlen := hok.len
     exact ⟨fun W hW => talikref04_Weak.calls 44300 _ _ l0_0 _ _ l0_1 _ _ l0_2 a1 _ _ l2 _ W (Kd.qak HR0.out hW) hc0_0 (Kd.qak HR1.out hW) hc0_1 (Kd.qak HR2.out hW) hc0_2 (Kd.qak HRL.out hW) hc2 (by
      rw [hk1]
      have h1 := rweak_go (by omega) hok 0 l2.length 0 44300 (by omega) (by omega) (l0_1.length : Int)
      simpa [talikref04_Weak.f] using h1)⟩
    have HRP : (z0 ≠ 0 ∧ postV l0_0 l0_1 l0_2 l2 = (0, 0, z0)) ∨ (z0 = 0 ∧ ∃ b mo, qab (∀ W, Below w.heap.size w W → Calls Try.prog 46 #[.agg #[.slice A0_0 l0_0.length c0_0, .slice A0_1 l0_1.length c0_1, .slice A0_2 l0_2.length c0_2], .slice A2 l2.length c2] W fun e w' => e = .returned (.tuple #[.int .i64 b, .int .i64 mo, .bool false]) ∧ Below W.heap.size W w') ∧ postV l0_0 l0_1 l0_2 l2 = (0, 0, 5)) ∨ (z0 = 0 ∧ ∃ b mo, qab (∀ W, Below w.heap.size w W → Calls Try.prog 46 #[.agg #[.slice A0_0 l0_0.length c0_0, .slice A0_1 l0_1.length c0_1, .slice A0_2 l0_2.length c0_2], .slice A2 l2.length c2] W fun e w' => e = .returned (.tuple #[.int .i64 b, .int .i64 mo, .bool true]) ∧ Below W.heap.size W w') ∧ postV l0_0 l0_1 l0_2 l2 = (b, mo, 0)) := by
     by_cases hz : z0 = 0
     ·
      right
      have hok := faults_ok (hz0.symm.trans hz)
      have hn3 := h3 (hbv.trans hok.v)
      rcases rpost_eq (by omega) hok 44500 (by omega) with ⟨b, mo, e1, e2⟩ | ⟨p, s, e1, e2⟩
      ·
       exact .inl ⟨hz, b, mo, ⟨fun W hW => talikref04_Post.calls 44500 _ _ l0_0 _ _ l0_1 _ _ l0_2 _ _ l2 _ _ _ W (Kd.qak HR0.out hW) hc0_0 (Kd.qak HR1.out hW) hc0_1 (Kd.qak HR2.out hW) hc0_2 (Kd.qak HRL.out hW) hc2 e1⟩, e2⟩
      ·
       exact .inr ⟨hz, p, s, ⟨fun W hW => talikref04_Post.calls 44500 _ _ l0_0 _ _ l0_1 _ _ l0_2 _ _ l2 _ _ _ W (Kd.qak HR0.out hW) hc0_0 (Kd.qak HR1.out hW) hc0_1 (Kd.qak HR2.out hW) hc0_2 (Kd.qak HRL.out hW) hc2 e1⟩, e2⟩
     ·
      left
      refine ⟨hz, ?_⟩
      unfold postV
      rw [given_same, ← hz0, if_pos hz]
    rw [← hz1] at HF1
    rw [← hz0] at HF0
    generalize postV l0_0 l0_1 l0_2 l2 = pv at HP HRP
    clear hbv hk1 hz1 hz0 h3 H3 HRL hsh hl
    have HD3 := qab.mk d3
    clear d3
    rcases HRP with ⟨hz, rfl⟩ | ⟨rfl, b, mo, HRP, rfl⟩ | ⟨rfl, b, mo, HRP, rfl⟩
    all_goals
     by_cases hz1 : z1 = 0
     all_goals
      first
      | (have HRW := HRWZ hz1; clear HRWZ; subst hz1; simp only [if_true] at HW)
      | (have HRW := True.intro; clear HRWZ; rw [if_neg hz1] at HW; have e1 : (z1 != 0) = true := (by simp [hz1]); have e2 : (z1 == 0) = false := (by simp [hz1]); clear hz1)
    all_goals
     try (have e3 : (z0 != 0) = true := (by simp [hz]); have e4 : (z0 == 0) = false := (by simp [hz]); clear hz)
     cases bv
    all_goals
     have d3 := HD3.out
     first
     | (have d3 := d3 rfl)
     | skip
     go_enter Try.func11, Try.ntmps11
     go_wp2_with (first | (with_reducible refine qaq (N := 3) rfl ?_); refine qam ?hg (N := 3) ?hd (cs := #[.slice A0_0 l0_0.length c0_0, .slice A0_1 l0_1.length c0_1, .slice A0_2 l0_2.length c0_2]) (t := 26) ?hr ?_; (case hd => rfl); (case hg => rfl); (case hr => first | (go_simp; done) | (go_simp; rfl)); intro gb hg_gb w2 hbox hb; have BKgb := qab.mk hbox; have n_HB := qab.mk (qag HB.out hb); have GEgb : w.heap.size ≤ gb := (by rw [hg_gb]; exact HB.out.size); clear HB; have HB := n_HB; clear n_HB; have hfgb := qac BKgb.out; have hcgb_0 : w2.cell? ⟨gb, 0, none⟩ = some (.slice A0_0 l0_0.length c0_0) := (qaa BKgb.out 0).trans rfl; have hcgb_1 : w2.cell? ⟨gb, 1, none⟩ = some (.slice A0_1 l0_1.length c0_1) := (qaa BKgb.out 1).trans rfl; have hcgb_2 : w2.cell? ⟨gb, 2, none⟩ = some (.slice A0_2 l0_2.length c0_2) := (qaa BKgb.out 2).trans rfl; clear hbox hb hg_gb | (go_at_call 16; with_reducible refine (HSHORT.out _ HB.out).mono ?_; rintro e wn ⟨rfl, hb⟩; have n_BKgb := qab.mk (qah BKgb.out hb); clear BKgb; have BKgb := n_BKgb; clear n_BKgb; have n_HB := qab.mk (qag HB.out hb); clear HB; have HB := n_HB; clear n_HB; clear hb; have hfgb := qac BKgb.out; have hcgb_0 : wn.cell? ⟨gb, 0, none⟩ = some (.slice A0_0 l0_0.length c0_0) := (qaa BKgb.out 0).trans rfl; have hcgb_1 : wn.cell? ⟨gb, 1, none⟩ = some (.slice A0_1 l0_1.length c0_1) := (qaa BKgb.out 1).trans rfl; have hcgb_2 : wn.cell? ⟨gb, 2, none⟩ = some (.slice A0_2 l0_2.length c0_2) := (qaa BKgb.out 2).trans rfl) | (go_at_call 19; with_reducible refine (HNET.out _ HB.out).mono ?_; rintro e wn ⟨rfl, hb⟩; have n_BKgb := qab.mk (qah BKgb.out hb); clear BKgb; have BKgb := n_BKgb; clear n_BKgb; have n_HB := qab.mk (qag HB.out hb); clear HB; have HB := n_HB; clear n_HB; clear hb; have hfgb := qac BKgb.out; have hcgb_0 : wn.cell? ⟨gb, 0, none⟩ = some (.slice A0_0 l0_0.length c0_0) := (qaa BKgb.out 0).trans rfl; have hcgb_1 : wn.cell? ⟨gb, 1, none⟩ = some (.slice A0_1 l0_1.length c0_1) := (qaa BKgb.out 1).trans rfl; have hcgb_2 : wn.cell? ⟨gb, 2, none⟩ = some (.slice A0_2 l0_2.length c0_2) := (qaa BKgb.out 2).trans rfl) | (go_at_call 44; with_reducible refine (HW.out _ HB.out).mono ?_; rintro e wn ⟨rfl, hb⟩; have n_BKgb := qab.mk (qah BKgb.out hb); clear BKgb; have BKgb := n_BKgb; clear n_BKgb; have n_HB := qab.mk (qag HB.out hb); clear HB; have HB := n_HB; clear n_HB; clear hb; have hfgb := qac BKgb.out; have hcgb_0 : wn.cell? ⟨gb, 0, none⟩ = some (.slice A0_0 l0_0.length c0_0) := (qaa BKgb.out 0).trans rfl; have hcgb_1 : wn.cell? ⟨gb, 1, none⟩ = some (.slice A0_1 l0_1.length c0_1) := (qaa BKgb.out 1).trans rfl; have hcgb_2 : wn.cell? ⟨gb, 2, none⟩ = some (.slice A0_2 l0_2.length c0_2) := (qaa BKgb.out 2).trans rfl) | (go_at_call 37; with_reducible refine (HP.out _ HB.out).mono ?_; rintro e wn ⟨rfl, hb⟩; have n_BKgb := qab.mk (qah BKgb.out hb); clear BKgb; have BKgb := n_BKgb; clear n_BKgb; have n_HB := qab.mk (qag HB.out hb); clear HB; have HB := n_HB; clear n_HB; clear hb; have hfgb := qac BKgb.out; have hcgb_0 : wn.cell? ⟨gb, 0, none⟩ = some (.slice A0_0 l0_0.length c0_0) := (qaa BKgb.out 0).trans rfl; have hcgb_1 : wn.cell? ⟨gb, 1, none⟩ = some (.slice A0_1 l0_1.length c0_1) := (qaa BKgb.out 1).trans rfl; have hcgb_2 : wn.cell? ⟨gb, 2, none⟩ = some (.slice A0_2 l0_2.length c0_2) := (qaa BKgb.out 2).trans rfl) | (go_at_call 36; with_reducible refine (HF1.out _ HB.out).mono ?_; rintro e wn ⟨rfl, hb⟩; have n_BKgb := qab.mk (qah BKgb.out hb); clear BKgb; have BKgb := n_BKgb; clear n_BKgb; have n_HB := qab.mk (qag HB.out hb); clear HB; have HB := n_HB; clear n_HB; clear hb; have hfgb := qac BKgb.out; have hcgb_0 : wn.cell? ⟨gb, 0, none⟩ = some (.slice A0_0 l0_0.length c0_0) := (qaa BKgb.out 0).trans rfl; have hcgb_1 : wn.cell? ⟨gb, 1, none⟩ = some (.slice A0_1 l0_1.length c0_1) := (qaa BKgb.out 1).trans rfl; have hcgb_2 : wn.cell? ⟨gb, 2, none⟩ = some (.slice A0_2 l0_2.length c0_2) := (qaa BKgb.out 2).trans rfl) | (go_at_call 36; with_reducible refine (HF0.out _ HB.out).mono ?_; rintro e wn ⟨rfl, hb⟩; have n_BKgb := qab.mk (qah BKgb.out hb); clear BKgb; have BKgb := n_BKgb; clear n_BKgb; have n_HB := qab.mk (qag HB.out hb); clear HB; have HB := n_HB; clear n_HB; clear hb; have hfgb := qac BKgb.out; have hcgb_0 : wn.cell? ⟨gb, 0, none⟩ = some (.slice A0_0 l0_0.length c0_0) := (qaa BKgb.out 0).trans rfl; have hcgb_1 : wn.cell? ⟨gb, 1, none⟩ = some (.slice A0_1 l0_1.length c0_1) := (qaa BKgb.out 1).trans rfl; have hcgb_2 : wn.cell? ⟨gb, 2, none⟩ = some (.slice A0_2 l0_2.length c0_2) := (qaa BKgb.out 2).trans rfl) | (go_at_call 45; with_reducible refine (HRW.out _ HB.out).mono ?_; rintro e wn ⟨rfl, hb⟩; have n_BKgb := qab.mk (qah BKgb.out hb); clear BKgb; have BKgb := n_BKgb; clear n_BKgb; have n_HB := qab.mk (qag HB.out hb); clear HB; have HB := n_HB; clear n_HB; clear hb; have hfgb := qac BKgb.out; have hcgb_0 : wn.cell? ⟨gb, 0, none⟩ = some (.slice A0_0 l0_0.length c0_0) := (qaa BKgb.out 0).trans rfl; have hcgb_1 : wn.cell? ⟨gb, 1, none⟩ = some (.slice A0_1 l0_1.length c0_1) := (qaa BKgb.out 1).trans rfl; have hcgb_2 : wn.cell? ⟨gb, 2, none⟩ = some (.slice A0_2 l0_2.length c0_2) := (qaa BKgb.out 2).trans rfl) | (go_at_call 46; with_reducible refine (HRP.out _ HB.out).mono ?_; rintro e wn ⟨rfl, hb⟩; have n_BKgb := qab.mk (qah BKgb.out hb); clear BKgb; have BKgb := n_BKgb; clear n_BKgb; have n_HB := qab.mk (qag HB.out hb); clear HB; have HB := n_HB; clear n_HB; clear hb; have hfgb := qac BKgb.out; have hcgb_0 : wn.cell? ⟨gb, 0, none⟩ = some (.slice A0_0 l0_0.length c0_0) := (qaa BKgb.out 0).trans rfl; have hcgb_1 : wn.cell? ⟨gb, 1, none⟩ = some (.slice A0_1 l0_1.length c0_1) := (qaa BKgb.out 1).trans rfl; have hcgb_2 : wn.cell? ⟨gb, 2, none⟩ = some (.slice A0_2 l0_2.length c0_2) := (qaa BKgb.out 2).trans rfl) | (go_at_call 17; with_reducible refine (HKNOWN.out _ HB.out).mono ?_; rintro e wn ⟨rfl, hb⟩; have n_BKgb := qab.mk (qah BKgb.out hb); clear BKgb; have BKgb := n_BKgb; clear n_BKgb; have n_HB := qab.mk (qag HB.out hb); clear HB; have HB := n_HB; clear n_HB; clear hb; have hfgb := qac BKgb.out; have hcgb_0 : wn.cell? ⟨gb, 0, none⟩ = some (.slice A0_0 l0_0.length c0_0) := (qaa BKgb.out 0).trans rfl; have hcgb_1 : wn.cell? ⟨gb, 1, none⟩ = some (.slice A0_1 l0_1.length c0_1) := (qaa BKgb.out 1).trans rfl; have hcgb_2 : wn.cell? ⟨gb, 2, none⟩ = some (.slice A0_2 l0_2.length c0_2) := (qaa BKgb.out 2).trans rfl))
     go_ret
     exact ⟨rfl, HB.out⟩
def Opens {α : Type} (d : Kd α) (t : TypeId) : Prop := ∀ (H : Type) (enc : TypeId × Value → H) (w : World) (base fuel : Nat) (cs : List Value) (x : DataW H × List MemPlace), DataW.trod enc Try.prog w base (fun _ => true) true fuel t cs = some x → ∃ v, d.K w v cs
theorem opens_int : Opens (Kd.int .i64) 3 := by
 intro H enc w base fuel cs x h
 obtain ⟨n, rfl, _, _⟩ := DataW.trod_int Try.underlying3 h
 exact ⟨n, rfl⟩
theorem cell_of_cells {w : World} {base n : Nat} {a : Addr} {cs : List Value} (h : w.cells? base a n = some cs) : cs.length = n ∧ ∀ i u, cs[i]? = some u → w.cell? (a.add i) = some u := by
 unfold World.cells? at h
 split at h
 ·
  refine ⟨by simpa using mapM_some_length h, fun i u hu => ?_⟩
  have hi : i < n := by
   have h1 := mapM_some_length h
   have h2 := (List.getElem?_eq_some_iff.1 hu).1
   simp at h1
   omega
  have h3 := mapM_some_get h i i (by simp [hi])
  rw [h3]
  exact hu
 ·
  cases h
theorem opens_slice {α : Type} {d : Kd α} {t e : TypeId} (z : α) (ht : Try.prog.underlying t = some (.slice e)) (hz : Try.prog.cellsOf e = d.sz) (hd : Opens d e) : Opens (Kd.slice e d) t := by
 intro H enc w base fuel cs x h
 rcases Deep.open_slice ht h with ⟨rfl, _⟩ | ⟨a, len, cap, m, n, D, Pl, rfl, hb, hl, hm, hmm, _, hel⟩
 ·
  exact ⟨[], none, 0, rfl, Nat.le_refl _, rfl, by simp, fun h => absurd h (by simp)⟩
 ·
  simp only [if_true] at hmm
  subst hmm
  haveI : Inhabited (α × List Value) := ⟨(z, [])⟩
  obtain ⟨F, hF⟩ : ∃ F : Nat → α × List Value, ∀ i, i < len → w.cells? base (a.add (i * Try.prog.cellsOf e)) (Try.prog.cellsOf e) = some (F i).2 ∧ d.K w (F i).1 (F i).2 := by
   have hx : ∀ i, i < len → ∃ q : α × List Value, w.cells? base (a.add (i * Try.prog.cellsOf e)) (Try.prog.cellsOf e) = some q.2 ∧ d.K w q.1 q.2 := fun i hi => by
    obtain ⟨cs', h1, h2⟩ := hel i (by omega)
    obtain ⟨v, hv⟩ := hd H enc w base n cs' _ h2
    exact ⟨(v, cs'), h1, hv⟩
   exact Deep.choose_lt hx
  have hlen : ((List.range len).map fun i => (F i).1).length = len := by simp
  refine ⟨(List.range len).map fun i => (F i).1, some a, m, by rw [hlen], by rw [hlen]; exact hl, rfl, ?_, fun _ => ⟨a, rfl, fun j p hj => ?_⟩⟩
  ·
   rw [hlen]
   have : maxLen ≤ 9223372036854775807 := by decide
   omega
  ·
   obtain ⟨hj1, hj2⟩ := List.getElem?_eq_some_iff.1 hj
   have hjl : j < len := by simpa using hj1
   have hp : p = (F j).1 := by simpa using hj2.symm
   subst hp
   obtain ⟨h1, h2⟩ := hF j hjl
   refine ⟨(F j).2, d.K_len h2, h2, fun i u hu => ?_⟩
   have h3 := (cell_of_cells h1).2 i u hu
   rw [Deep.add_add, hz] at h3
   exact h3
theorem K_pair {α β : Type} {a : Kd α} {b : Kd β} {w : World} {cs : List Value} {o : Nat} {x : α} {y : β} (h1 : a.K w x ((cs.drop o).take a.sz)) (h2 : b.K w y (cs.drop (o + a.sz))) : (Kd.pair a b).K w (x, y) (cs.drop o) :=
 ⟨_, _, by have h := (List.take_append_drop a.sz (cs.drop o)).symm; rwa [List.drop_drop] at h, h1, h2⟩
theorem K_last {α : Type} {a : Kd α} {w : World} {cs : List Value} {o : Nat} {x : α} (h1 : a.K w x ((cs.drop o).take a.sz)) (hl : cs.length = o + a.sz) : a.K w x (cs.drop o) := by
 rwa [List.take_of_length_le (by simp; omega)] at h1
theorem field_of {α : Type} {d : Kd α} {t : TypeId} (hd : Opens d t) (hz : Try.prog.cellsOf t = d.sz) {H : Type} {enc : TypeId × Value → H} {w : World} {base n o : Nat} {cs : List Value} {xs : List (DataW H × List MemPlace)} {i : Nat} (hi : i < xs.length)
  (h : DataW.trod enc Try.prog w base (fun _ => true) true n t ((cs.drop o).take (Try.prog.cellsOf t)) = xs[i]?) : ∃ v, d.K w v ((cs.drop o).take d.sz) := by
 rw [hz, List.getElem?_eq_getElem hi] at h
 exact hd H enc w base n _ _ h
theorem opens_37 : Opens k37 37 := by
 intro H enc w base fuel cs x h
 obtain ⟨xs, n, rfl, rfl, hl, hxl, hf⟩ := DataW.trod_struct Try.underlying37 h
 have hl' : cs.length = 2 := hl.trans (by kernel_rfl)
 have hx : xs.length = 2 := hxl
 obtain ⟨v0, e0⟩ := field_of opens_int (by kernel_rfl) (i := 0) (by omega) (hf 0 _ rfl)
 obtain ⟨v1, e1⟩ := field_of opens_int (by kernel_rfl) (i := 1) (by omega) (hf 1 _ rfl)
 exact ⟨⟨v0, v1⟩, K_pair (o := 0) e0 (K_last (o := 0 + 1) e1 hl')⟩
theorem opens_39 : Opens k39 39 := by
 intro H enc w base fuel cs x h
 obtain ⟨xs, n, rfl, rfl, hl, hxl, hf⟩ := DataW.trod_struct Try.underlying39 h
 have hl' : cs.length = 12 := hl.trans (by kernel_rfl)
 have hx : xs.length = 8 := hxl
 obtain ⟨v0, e0⟩ := field_of opens_37 (by kernel_rfl) (i := 0) (by omega) (hf 0 _ rfl)
 obtain ⟨v1, e1⟩ := field_of opens_37 (by kernel_rfl) (i := 1) (by omega) (hf 1 _ rfl)
 obtain ⟨v2, e2⟩ := field_of opens_37 (by kernel_rfl) (i := 2) (by omega) (hf 2 _ rfl)
 obtain ⟨v3, e3⟩ := field_of opens_int (by kernel_rfl) (i := 3) (by omega) (hf 3 _ rfl)
 obtain ⟨v4, e4⟩ := field_of opens_int (by kernel_rfl) (i := 4) (by omega) (hf 4 _ rfl)
 obtain ⟨v5, e5⟩ := field_of opens_int (by kernel_rfl) (i := 5) (by omega) (hf 5 _ rfl)
 obtain ⟨v6, e6⟩ := field_of opens_int (by kernel_rfl) (i := 6) (by omega) (hf 6 _ rfl)
 obtain ⟨v7, e7⟩ := field_of opens_37 (by kernel_rfl) (i := 7) (by omega) (hf 7 _ rfl)
 exact ⟨⟨v0, v1, v2, v3, v4, v5, v6, v7⟩, K_pair (o := 0) e0 (K_pair (o := 0 + 2) e1 (K_pair (o := 0 + 2 + 2) e2 (K_pair (o := 0 + 2 + 2 + 2) e3 (K_pair (o := 0 + 2 + 2 + 2 + 1) e4 (K_pair (o := 0 + 2 + 2 + 2 + 1 + 1) e5 (K_pair (o := 0 + 2 + 2 + 2 + 1 + 1 + 1) e6 (K_last (o := 0 + 2 + 2 + 2 + 1 + 1 + 1 + 1) e7 hl')))))))⟩
theorem opens_22 : Opens (Kd.slice 39 k39) 22 := opens_slice z39 Try.underlying22 (by kernel_rfl) opens_39
theorem opens_23 : Opens (Kd.slice 37 k37) 23 := opens_slice z37 Try.underlying23 (by kernel_rfl) opens_37
theorem opens_47 : Opens (Kd.slice 3 (Kd.int .i64)) 47 := opens_slice 0 Try.underlying47 (by kernel_rfl) opens_int
theorem opens_24 : Opens (Kd.slice 47 (Kd.slice 3 (Kd.int .i64))) 24 := opens_slice [] Try.underlying24 (by kernel_rfl) opens_47
theorem open_net {H : Type} {enc : TypeId × Value → H} {w : World} {b0 : Nat} {v : Value} {d : DataW H} {p : List MemPlace} (hv : Value.okWide Try.prog w .any b0 26 v) (h : DataW.Trod enc Try.prog w 0 (fun _ => true) true 26 v d p) :
  ∃ (A0 : Option Addr) (c0 : Nat) (l0 : List S39) (A1 : Option Addr) (c1 : Nat) (l1 : List S37) (A2 : Option Addr) (c2 : Nat) (l2 : List (List Int)), v = .agg #[.slice A0 l0.length c0, .slice A1 l1.length c1, .slice A2 l2.length c2] ∧
   Kd.C k39 w A0 l0.length l0 ∧ l0.length ≤ c0 ∧ Kd.C k37 w A1 l1.length l1 ∧ l1.length ≤ c1 ∧ Kd.C (Kd.slice 3 (Kd.int .i64)) w A2 l2.length l2 ∧ l2.length ≤ c2 := by
 obtain ⟨v0, v1, v2, y0, y1, y2, n, rfl, _, _, h0, h1, h2⟩ := Joins.open_agg3 Try.underlying26 (by kernel_rfl) (by kernel_rfl) hv h
 obtain ⟨l0, A0, c0, e0, f0, g0⟩ := opens_22 H enc w 0 n _ _ h0
 obtain ⟨l1, A1, c1, e1, f1, g1⟩ := opens_23 H enc w 0 n _ _ h1
 obtain ⟨l2, A2, c2, e2, f2, g2⟩ := opens_24 H enc w 0 n _ _ h2
 injection e0 with e0 _
 injection e1 with e1 _
 injection e2 with e2 _
 subst e0 e1 e2
 exact ⟨A0, c0, l0, A1, c1, l1, A2, c2, l2, rfl, g0, f0, g1, f1, g2, f2⟩
theorem open_nums {H : Type} {enc : TypeId × Value → H} {w : World} {b0 : Nat} {v : Value} {d : DataW H} {p : List MemPlace} (hv : Value.okWide Try.prog w .any b0 47 v) (h : DataW.Trod enc Try.prog w 0 (fun _ => true) true 47 v d p) :
  ∃ (A : Option Addr) (c : Nat) (l : List Int), v = .slice A l.length c ∧ Kd.C (Kd.int .i64) w A l.length l ∧ l.length ≤ c := by
 obtain ⟨a, len, cap, rfl⟩ := WideShapes.okWide_slice Try.underlying47 hv
 obtain ⟨n, hn⟩ := h
 obtain ⟨l, A, c, e, f, g⟩ := opens_47 H enc w 0 n _ _ hn
 simp [Value.cells] at e
 obtain ⟨rfl, rfl, rfl⟩ := e
 exact ⟨_, _, l, rfl, g, f⟩
end Go.Proofs.Ytipphcjgdebecaa.PA
