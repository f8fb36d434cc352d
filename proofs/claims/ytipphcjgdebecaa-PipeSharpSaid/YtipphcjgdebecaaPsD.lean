/- What functions of the program answer. No condition. -/
import Derived.Deep.Slices
import Derived.Lib.SmallJoins
import Derived.ChangeOld
import Derived.ProofKit
import Derived.RangeFuncNested
import Derived.RangeFuncBound
import Derived.RangeFuncCalls
import Derived.RangeFuncLeaves
import Derived.RangeFuncBox
import Derived.Shelf.Abstract
import Derived.Shelf.RegionOpen
import Derived.OwnWalkIn
import Derived.TacticsInMore
import Derived.LoopNIn
import Derived.LoopIn
import Derived.Recover
import Derived.Defers
import Derived.WalkLawsBesides
import Derived.WalkSmall
import Derived.Test.YtipphcjgdebecaaSC
import Derived.Test.YtipphcjgdebecaaSF
set_option linter.all false
set_option maxRecDepth 100000
set_option maxHeartbeats 8000000
namespace Go.Proofs.Ytipphcjgdebecaa.PA
open Go.RowKit Go.Shelf Go.Proofs.YtipphcjgdebecaaW.PrintWords Go.Proofs.YtipphcjgdebecaaW.PrintLast Go.Proofs.YtipphcjgdebecaaW.PrintMore
attribute [local go_sem] qaw qay max_two min_two qas qat qax qaz
def Opens {α : Type} (d : Kd α) (t : TypeId) : Prop := ∀ (H : Type) (enc : TypeId × Value → H) (w : World) (base fuel : Nat) (cs : List Value) (x : DataW H × List MemPlace), DataW.trod enc Try.prog w base (fun _ => true) true fuel t cs = some x → ∃ v, d.K w v cs
theorem opens_int : Opens (Kd.int .i64) 3 := by
 intro H enc w base fuel cs x h
 obtain ⟨n, rfl, _, _⟩ := DataW.trod_int Try.underlying3 h
 exact ⟨n, rfl⟩
theorem cell_of_cells {w : World} {base n : Nat} {a : Addr} {cs : List Value} (h : w.cells? base a n = some cs) : cs.length = n ∧ ∀ i u, cs[i]? = some u → w.cell? (a.add i) = some u := by
 unfold World.cells? at h
 split at h
 ·
  refine ⟨by simpa using mapM_some_length h, fun i u hu => ?_⟩
  have hi : i < n := by
   have h1 := mapM_some_length h
   have h2 := (List.getElem?_eq_some_iff.1 hu).1
   simp at h1
   omega
  have h3 := mapM_some_get h i i (by simp [hi])
  rw [h3]
  exact hu
 ·
  cases h
theorem opens_slice {α : Type} {d : Kd α} {t e : TypeId} (z : α) (ht : Try.prog.underlying t = some (.slice e)) (hz : Try.prog.cellsOf e = d.sz) (hd : Opens d e) : Opens (Kd.slice e d) t := by
 intro H enc w base fuel cs x h
 rcases Deep.open_slice ht h with ⟨rfl, _⟩ | ⟨a, len, cap, m, n, D, Pl, rfl, hb, hl, hm, hmm, _, hel⟩
 ·
  exact ⟨[], none, 0, rfl, Nat.le_refl _, rfl, by simp, fun h => absurd h (by simp)⟩
 ·
  simp only [if_true] at hmm
  subst hmm
  haveI : Inhabited (α × List Value) := ⟨(z, [])⟩
  obtain ⟨F, hF⟩ : ∃ F : Nat → α × List Value, ∀ i, i < len → w.cells? base (a.add (i * Try.prog.cellsOf e)) (Try.prog.cellsOf e) = some (F i).2 ∧ d.K w (F i).1 (F i).2 := by
   have hx : ∀ i, i < len → ∃ q : α × List Value, w.cells? base (a.add (i * Try.prog.cellsOf e)) (Try.prog.cellsOf e) = some q.2 ∧ d.K w q.1 q.2 := fun i hi => by
    obtain ⟨cs', h1, h2⟩ := hel i (by omega)
    obtain ⟨v, hv⟩ := hd H enc w base n cs' _ h2
    exact ⟨(v, cs'), h1, hv⟩
   exact Deep.choose_lt hx
  have hlen : ((List.range len).map fun i => (F i).1).length = len := by simp
  refine ⟨(List.range len).map fun i => (F i).1, some a, m, by rw [hlen], by rw [hlen]; exact hl, rfl, ?_, fun _ => ⟨a, rfl, fun j p hj => ?_⟩⟩
  ·
   rw [hlen]
   have : maxLen ≤ 9223372036854775807 := by decide
   omega
  ·
   obtain ⟨hj1, hj2⟩ := List.getElem?_eq_some_iff.1 hj
   have hjl : j < len := by simpa using hj1
   have hp : p = (F j).1 := by simpa using hj2.symm
   subst hp
   obtain ⟨h1, h2⟩ := hF j hjl
   refine ⟨(F j).2, d.K_len h2, h2, fun i u hu => ?_⟩
   have h3 := (cell_of_cells h1).2 i u hu
   rw [Deep.add_add, hz] at h3
   exact h3
theorem K_pair {α β : Type} {a : Kd α} {b : Kd β} {w : World} {cs : List Value} {o : Nat} {x : α} {y : β} (h1 : a.K w x ((cs.drop o).take a.sz)) (h2 : b.K w y (cs.drop (o + a.sz))) : (Kd.pair a b).K w (x, y) (cs.drop o) :=
 ⟨_, _, by have h := (List.take_append_drop a.sz (cs.drop o)).symm; rwa [List.drop_drop] at h, h1, h2⟩
theorem K_last {α : Type} {a : Kd α} {w : World} {cs : List Value} {o : Nat} {x : α} (h1 : a.K w x ((cs.drop o).take a.sz)) (hl : cs.length = o + a.sz) : a.K w x (cs.drop o) := by
 rwa [List.take_of_length_le (by simp; omega)] at h1
theorem field_of {α : Type} {d : Kd α} {t : TypeId} (hd : Opens d t) (hz : Try.prog.cellsOf t = d.sz) {H : Type} {enc : TypeId × Value → H} {w : World} {base n o : Nat} {cs : List Value} {xs : List (DataW H × List MemPlace)} {i : Nat} (hi : i < xs.length)
  (h : DataW.trod enc Try.prog w base (fun _ => true) true n t ((cs.drop o).take (Try.prog.cellsOf t)) = xs[i]?) : ∃ v, d.K w v ((cs.drop o).take d.sz) := by
 rw [hz, List.getElem?_eq_getElem hi] at h
 exact hd H enc w base n _ _ h
theorem opens_37 : Opens k37 37 := by
 intro H enc w base fuel cs x h
 obtain ⟨xs, n, rfl, rfl, hl, hxl, hf⟩ := DataW.trod_struct Try.underlying37 h
 have hl' : cs.length = 2 := hl.trans (by kernel_rfl)
 have hx : xs.length = 2 := hxl
 obtain ⟨v0, e0⟩ := field_of opens_int (by kernel_rfl) (i := 0) (by omega) (hf 0 _ rfl)
 obtain ⟨v1, e1⟩ := field_of opens_int (by kernel_rfl) (i := 1) (by omega) (hf 1 _ rfl)
 exact ⟨⟨v0, v1⟩, K_pair (o := 0) e0 (K_last (o := 0 + 1) e1 hl')⟩
theorem opens_39 : Opens k39 39 := by
 intro H enc w base fuel cs x h
 obtain ⟨xs, n, rfl, rfl, hl, hxl, hf⟩ := DataW.trod_struct Try.underlying39 h
 have hl' : cs.length = 12 := hl.trans (by kernel_rfl)
 have hx : xs.length = 8 := hxl
 obtain ⟨v0, e0⟩ := field_of opens_37 (by kernel_rfl) (i := 0) (by omega) (hf 0 _ rfl)
 obtain ⟨v1, e1⟩ := field_of opens_37 (by kernel_rfl) (i := 1) (by omega) (hf 1 _ rfl)
 obtain ⟨v2, e2⟩ := field_of opens_37 (by kernel_rfl) (i := 2) (by omega) (hf 2 _ rfl)
 obtain ⟨v3, e3⟩ := field_of opens_int (by kernel_rfl) (i := 3) (by omega) (hf 3 _ rfl)
 obtain ⟨v4, e4⟩ := field_of opens_int (by kernel_rfl) (i := 4) (by omega) (hf 4 _ rfl)
 obtain ⟨v5, e5⟩ := field_of opens_int (by kernel_rfl) (i := 5) (by omega) (hf 5 _ rfl)
 obtain ⟨v6, e6⟩ := field_of opens_int (by kernel_rfl) (i := 6) (by omega) (hf 6 _ rfl)
 obtain ⟨v7, e7⟩ := field_of opens_37 (by kernel_rfl) (i := 7) (by omega) (hf 7 _ rfl)
 exact ⟨⟨v0, v1, v2, v3, v4, v5, v6, v7⟩, K_pair (o := 0) e0 (K_pair (o := 0 + 2) e1 (K_pair (o := 0 + 2 + 2) e2 (K_pair (o := 0 + 2 + 2 + 2) e3 (K_pair (o := 0 + 2 + 2 + 2 + 1) e4 (K_pair (o := 0 + 2 + 2 + 2 + 1 + 1) e5 (K_pair (o := 0 + 2 + 2 + 2 + 1 + 1 + 1) e6 (K_last (o := 0 + 2 + 2 + 2 + 1 + 1 + 1 + 1) e7 hl')))))))⟩
theorem opens_22 : Opens (Kd.slice 39 k39) 22 := opens_slice z39 Try.underlying22 (by kernel_rfl) opens_39
theorem opens_23 : Opens (Kd.slice 37 k37) 23 := opens_slice z37 Try.underlying23 (by kernel_rfl) opens_37
theorem opens_47 : Opens (Kd.slice 3 (Kd.int .i64)) 47 := opens_slice 0 Try.underlying47 (by kernel_rfl) opens_int
theorem opens_24 : Opens (Kd.slice 47 (Kd.slice 3 (Kd.int .i64))) 24 := opens_slice [] Try.underlying24 (by kernel_rfl) opens_47
theorem open_net {H : Type} {enc : TypeId × Value → H} {w : World} {b0 : Nat} {v : Value} {d : DataW H} {p : List MemPlace} (hv : Value.okWide Try.prog w .any b0 26 v) (h : DataW.Trod enc Try.prog w 0 (fun _ => true) true 26 v d p) :
  ∃ (A0 : Option Addr) (c0 : Nat) (l0 : List S39) (A1 : Option Addr) (c1 : Nat) (l1 : List S37) (A2 : Option Addr) (c2 : Nat) (l2 : List (List Int)), v = .agg #[.slice A0 l0.length c0, .slice A1 l1.length c1, .slice A2 l2.length c2] ∧
   Kd.C k39 w A0 l0.length l0 ∧ l0.length ≤ c0 ∧ Kd.C k37 w A1 l1.length l1 ∧ l1.length ≤ c1 ∧ Kd.C (Kd.slice 3 (Kd.int .i64)) w A2 l2.length l2 ∧ l2.length ≤ c2 := by
 obtain ⟨v0, v1, v2, y0, y1, y2, n, rfl, _, _, h0, h1, h2⟩ := Joins.open_agg3 Try.underlying26 (by kernel_rfl) (by kernel_rfl) hv h
 obtain ⟨l0, A0, c0, e0, f0, g0⟩ := opens_22 H enc w 0 n _ _ h0
 obtain ⟨l1, A1, c1, e1, f1, g1⟩ := opens_23 H enc w 0 n _ _ h1
 obtain ⟨l2, A2, c2, e2, f2, g2⟩ := opens_24 H enc w 0 n _ _ h2
 injection e0 with e0 _
 injection e1 with e1 _
 injection e2 with e2 _
 subst e0 e1 e2
 exact ⟨A0, c0, l0, A1, c1, l1, A2, c2, l2, rfl, g0, f0, g1, f1, g2, f2⟩
end Go.Proofs.Ytipphcjgdebecaa.PA
