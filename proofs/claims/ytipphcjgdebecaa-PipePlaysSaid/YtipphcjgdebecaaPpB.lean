/- Parts of a proof about the pipe seat's laws: what the functions of the program answer. No condition of its own. -/
import Derived.Test.YtipphcjgdebecaaProg
import Derived.Below
import Derived.Deep.Draws
import Derived.Deep.AppendLies
import Derived.Maps.AppendAt
import Derived.OwnWalk
import Derived.Laws.BytesArg
import Derived.Laws.MakeOwn
import Derived.Laws.OwnMore
import Derived.Deep.OwnRows
import Derived.Tactics
import Derived.Lib.ConvBytes
import Derived.Laws.Slices
import Derived.WalkKit
import Derived.KernelRfl
import Derived.RowKit3
import Derived.Deep.LoopGhost
import Derived.Deep.QuietTactic
import Derived.BigQuiet
import Derived.WideLaws
import Derived.Deep.DeepCutAuto
import Derived.Deep.CutBlock
import Derived.Deep.RegionHeld3
import Derived.Laws.Rows
import Derived.Lib.AppendStr
import Derived.ArgAppend
import Derived.Laws.IdiomCopy
import Derived.OrdersHeld
import Derived.Laws.BitsLemmas
import Derived.RowKit
import Derived.RangeFuncNested
import Derived.RangeFuncBound
import Derived.RangeFuncCalls
import Derived.RangeFuncLeaves
import Derived.RangeFuncBox
import Derived.Shelf.Abstract
import Derived.Shelf.RegionOpen
import Derived.OwnWalkIn
import Derived.TacticsInMore
import Derived.LoopNIn
import Derived.LoopIn
import Derived.Recover
import Derived.Defers
import Derived.WalkLawsBesides
import Derived.WalkSmall
import Derived.Test.YtipphcjgdebecaaPpA
import Derived.Deep.Slices
import Derived.Lib.SmallJoins
import Derived.ChangeOld
import Derived.ProofKit
set_option linter.all false
namespace Go.Proofs.Ytipphcjgdebecaa.PA
open Go.RowKit Go.Proofs.YtipphcjgdebecaaW.PrintWords Go.Proofs.YtipphcjgdebecaaW.PrintLast Go.Proofs.YtipphcjgdebecaaW.PrintMore
attribute [local go_sem] max2_int min2_int max_two min_two max_three min_three max_four min_four
def errW : Option Int → Value
 | none => .nilIface
 | some c => .iface 0 (.int .i64 c)
theorem qas : errW none = .nilIface := rfl
theorem qat (c : Int) : errW (some c) = .iface 0 (.int .i64 c) := rfl
theorem info3 : (Try.prog.info? 3).map (fun i => (i.zero, i.size, i.bytes)) = some (some (.int .i64 0), 1, 8) := by kernel_rfl
theorem info37 : (Try.prog.info? 37).map (fun i => (i.zero, i.size, i.bytes)) = some (some (.agg #[(.int .i64 0), (.int .i64 0)]), 2, 16) := by kernel_rfl
def rd_L1 (xs : List (List Int)) (i : Int) : (List Int) := xs.getD i.toNat ([] : List Int)
theorem at_L1 {w : World} {A : Option Addr} {n : Nat} {xs : List (List Int)} (h : Kd.C (Kd.slice 3 (Kd.int .i64)) w A n xs) (i : Int) (h0 : 0 ≤ i) (h1 : i < n) : ∃ ad A0 c0, A = some ad ∧ w.cell? (ad.add i.toNat) = some (.slice A0 (rd_L1 xs i).length c0) ∧ (rd_L1 xs i).length ≤ c0 ∧ (Kd.int .i64).C w A0 (rd_L1 xs i).length (rd_L1 xs i) := by
 obtain ⟨ad, c, e, _, hK, hc0⟩ := Kd.C_get h ([] : List Int) i h0 h1
 have hc : ∀ j u, c[j]? = some u → w.cell? (ad.add (i.toNat * 1 + j)) = some u := hc0
 obtain ⟨A0, c0, rfl, l0, g0⟩ := hK
 exact ⟨ad, A0, c0, e, by have hq := hc 0 _ rfl; rwa [Nat.mul_one, Nat.add_zero] at hq, l0, g0⟩
structure S37 where
 f0 : Int
 f1 : Int
def z37 : S37 := ⟨(0 : Int), (0 : Int)⟩
def k37 : Kd S37 := Kd.iso (Kd.pair (Kd.int .i64) (Kd.int .i64)) (fun x : S37 => (x.f0, x.f1))
theorem k37_open {w : World} {x : S37} {cs : List Value} (h : k37.K w x cs) : cs = [.int .i64 x.f0, .int .i64 x.f1] := by
 obtain ⟨_, _, rfl, rfl, rfl⟩ := h
 exact rfl
theorem k37_mkM (w : World) (base : Nat) (ok : Nat → Prop) (x : S37)  : k37.M w base ok x [.int .i64 x.f0, .int .i64 x.f1] := ⟨[.int .i64 x.f0], [.int .i64 x.f1], rfl, rfl, rfl⟩
def rd_T37 (xs : List S37) (i : Int) : S37 := xs.getD i.toNat z37
theorem at_T37 {w : World} {A : Option Addr} {n : Nat} {xs : List S37} (h : Kd.C k37 w A n xs) (i : Int) (h0 : 0 ≤ i) (h1 : i < n) : ∃ ad , A = some ad ∧ w.cell? (ad.add (i.toNat * 2)) = some (.int .i64 (rd_T37 xs i).f0) ∧ w.cell? ⟨(ad.add (i.toNat * 2)).block, (ad.add (i.toNat * 2)).off + 1, none⟩ = some (.int .i64 (rd_T37 xs i).f1) := by
 obtain ⟨ad, c, e, _, hK, hc0⟩ := Kd.C_get h z37 i h0 h1
 have hc : ∀ j u, c[j]? = some u → w.cell? (ad.add (i.toNat * 2 + j)) = some u := hc0
 obtain rfl := k37_open hK
 exact ⟨ad, e, hc 0 _ rfl, by rw [← add_field _ _ 1 (by omega)]; exact hc 1 _ rfl⟩
structure S39 where
 f0 : S37
 f1 : S37
 f2 : S37
 f3 : Int
 f4 : Int
 f5 : Int
 f6 : Int
 f7 : S37
def z39 : S39 := ⟨z37, z37, z37, (0 : Int), (0 : Int), (0 : Int), (0 : Int), z37⟩
def k39 : Kd S39 := Kd.iso (Kd.pair k37 (Kd.pair k37 (Kd.pair k37 (Kd.pair (Kd.int .i64) (Kd.pair (Kd.int .i64) (Kd.pair (Kd.int .i64) (Kd.pair (Kd.int .i64) k37))))))) (fun x : S39 => (x.f0, x.f1, x.f2, x.f3, x.f4, x.f5, x.f6, x.f7))
theorem k39_open {w : World} {x : S39} {cs : List Value} (h : k39.K w x cs) : cs = [.int .i64 x.f0.f0, .int .i64 x.f0.f1, .int .i64 x.f1.f0, .int .i64 x.f1.f1, .int .i64 x.f2.f0, .int .i64 x.f2.f1, .int .i64 x.f3, .int .i64 x.f4, .int .i64 x.f5, .int .i64 x.f6, .int .i64 x.f7.f0, .int .i64 x.f7.f1] := by
 obtain ⟨_, _, rfl, s0, ⟨_, _, rfl, s2, ⟨_, _, rfl, s4, ⟨_, _, rfl, rfl, ⟨_, _, rfl, rfl, ⟨_, _, rfl, rfl, ⟨_, _, rfl, rfl, s10⟩⟩⟩⟩⟩⟩⟩ := h
 obtain rfl := k37_open s0
 obtain rfl := k37_open s2
 obtain rfl := k37_open s4
 obtain rfl := k37_open s10
 exact rfl
theorem k39_mkM (w : World) (base : Nat) (ok : Nat → Prop) (x : S39)  : k39.M w base ok x [.int .i64 x.f0.f0, .int .i64 x.f0.f1, .int .i64 x.f1.f0, .int .i64 x.f1.f1, .int .i64 x.f2.f0, .int .i64 x.f2.f1, .int .i64 x.f3, .int .i64 x.f4, .int .i64 x.f5, .int .i64 x.f6, .int .i64 x.f7.f0, .int .i64 x.f7.f1] := ⟨[.int .i64 x.f0.f0, .int .i64 x.f0.f1], [.int .i64 x.f1.f0, .int .i64 x.f1.f1, .int .i64 x.f2.f0, .int .i64 x.f2.f1, .int .i64 x.f3, .int .i64 x.f4, .int .i64 x.f5, .int .i64 x.f6, .int .i64 x.f7.f0, .int .i64 x.f7.f1], rfl, (k37_mkM w base ok x.f0 ), ⟨[.int .i64 x.f1.f0, .int .i64 x.f1.f1], [.int .i64 x.f2.f0, .int .i64 x.f2.f1, .int .i64 x.f3, .int .i64 x.f4, .int .i64 x.f5, .int .i64 x.f6, .int .i64 x.f7.f0, .int .i64 x.f7.f1], rfl, (k37_mkM w base ok x.f1 ), ⟨[.int .i64 x.f2.f0, .int .i64 x.f2.f1], [.int .i64 x.f3, .int .i64 x.f4, .int .i64 x.f5, .int .i64 x.f6, .int .i64 x.f7.f0, .int .i64 x.f7.f1], rfl, (k37_mkM w base ok x.f2 ), ⟨[.int .i64 x.f3], [.int .i64 x.f4, .int .i64 x.f5, .int .i64 x.f6, .int .i64 x.f7.f0, .int .i64 x.f7.f1], rfl, rfl, ⟨[.int .i64 x.f4], [.int .i64 x.f5, .int .i64 x.f6, .int .i64 x.f7.f0, .int .i64 x.f7.f1], rfl, rfl, ⟨[.int .i64 x.f5], [.int .i64 x.f6, .int .i64 x.f7.f0, .int .i64 x.f7.f1], rfl, rfl, ⟨[.int .i64 x.f6], [.int .i64 x.f7.f0, .int .i64 x.f7.f1], rfl, rfl, (k37_mkM w base ok x.f7 )⟩⟩⟩⟩⟩⟩⟩
def qak (xs : List S39) (i : Int) : S39 := xs.getD i.toNat z39
theorem at_T39 {w : World} {A : Option Addr} {n : Nat} {xs : List S39} (h : Kd.C k39 w A n xs) (i : Int) (h0 : 0 ≤ i) (h1 : i < n) : ∃ ad , A = some ad ∧ w.cell? (ad.add (i.toNat * 12)) = some (.int .i64 (qak xs i).f0.f0) ∧ w.cell? ⟨(ad.add (i.toNat * 12)).block, (ad.add (i.toNat * 12)).off + 1, none⟩ = some (.int .i64 (qak xs i).f0.f1) ∧ w.cell? ⟨(ad.add (i.toNat * 12)).block, (ad.add (i.toNat * 12)).off + 2, none⟩ = some (.int .i64 (qak xs i).f1.f0) ∧ w.cell? ⟨(ad.add (i.toNat * 12)).block, (ad.add (i.toNat * 12)).off + 3, none⟩ = some (.int .i64 (qak xs i).f1.f1) ∧ w.cell? ⟨(ad.add (i.toNat * 12)).block, (ad.add (i.toNat * 12)).off + 4, none⟩ = some (.int .i64 (qak xs i).f2.f0) ∧ w.cell? ⟨(ad.add (i.toNat * 12)).block, (ad.add (i.toNat * 12)).off + 5, none⟩ = some (.int .i64 (qak xs i).f2.f1) ∧ w.cell? ⟨(ad.add (i.toNat * 12)).block, (ad.add (i.toNat * 12)).off + 6, none⟩ = some (.int .i64 (qak xs i).f3) ∧ w.cell? ⟨(ad.add (i.toNat * 12)).block, (ad.add (i.toNat * 12)).off + 7, none⟩ = some (.int .i64 (qak xs i).f4) ∧ w.cell? ⟨(ad.add (i.toNat * 12)).block, (ad.add (i.toNat * 12)).off + 8, none⟩ = some (.int .i64 (qak xs i).f5) ∧ w.cell? ⟨(ad.add (i.toNat * 12)).block, (ad.add (i.toNat * 12)).off + 9, none⟩ = some (.int .i64 (qak xs i).f6) ∧ w.cell? ⟨(ad.add (i.toNat * 12)).block, (ad.add (i.toNat * 12)).off + 10, none⟩ = some (.int .i64 (qak xs i).f7.f0) ∧ w.cell? ⟨(ad.add (i.toNat * 12)).block, (ad.add (i.toNat * 12)).off + 11, none⟩ = some (.int .i64 (qak xs i).f7.f1) := by
 obtain ⟨ad, c, e, _, hK, hc0⟩ := Kd.C_get h z39 i h0 h1
 have hc : ∀ j u, c[j]? = some u → w.cell? (ad.add (i.toNat * 12 + j)) = some u := hc0
 obtain rfl := k39_open hK
 exact ⟨ad, e, hc 0 _ rfl, by rw [← add_field _ _ 1 (by omega)]; exact hc 1 _ rfl, by rw [← add_field _ _ 2 (by omega)]; exact hc 2 _ rfl, by rw [← add_field _ _ 3 (by omega)]; exact hc 3 _ rfl, by rw [← add_field _ _ 4 (by omega)]; exact hc 4 _ rfl, by rw [← add_field _ _ 5 (by omega)]; exact hc 5 _ rfl, by rw [← add_field _ _ 6 (by omega)]; exact hc 6 _ rfl, by rw [← add_field _ _ 7 (by omega)]; exact hc 7 _ rfl, by rw [← add_field _ _ 8 (by omega)]; exact hc 8 _ rfl, by rw [← add_field _ _ 9 (by omega)]; exact hc 9 _ rfl, by rw [← add_field _ _ 10 (by omega)]; exact hc 10 _ rfl, by rw [← add_field _ _ 11 (by omega)]; exact hc 11 _ rfl⟩
structure S44 where
 f0 : Int
 f1 : Int
 f2 : Bool
def z44 : S44 := ⟨(0 : Int), (0 : Int), false⟩
def k44 : Kd S44 := Kd.iso (Kd.pair (Kd.int .i64) (Kd.pair (Kd.int .i64) Kd.bool)) (fun x : S44 => (x.f0, x.f1, x.f2))
theorem k44_open {w : World} {x : S44} {cs : List Value} (h : k44.K w x cs) : cs = [.int .i64 x.f0, .int .i64 x.f1, .bool x.f2] := by
 obtain ⟨_, _, rfl, rfl, ⟨_, _, rfl, rfl, rfl⟩⟩ := h
 exact rfl
theorem k44_mkM (w : World) (base : Nat) (ok : Nat → Prop) (x : S44)  : k44.M w base ok x [.int .i64 x.f0, .int .i64 x.f1, .bool x.f2] := ⟨[.int .i64 x.f0], [.int .i64 x.f1, .bool x.f2], rfl, rfl, ⟨[.int .i64 x.f1], [.bool x.f2], rfl, rfl, rfl⟩⟩
def rd_T44 (xs : List S44) (i : Int) : S44 := xs.getD i.toNat z44
theorem at_T44 {w : World} {A : Option Addr} {n : Nat} {xs : List S44} (h : Kd.C k44 w A n xs) (i : Int) (h0 : 0 ≤ i) (h1 : i < n) : ∃ ad , A = some ad ∧ w.cell? (ad.add (i.toNat * 3)) = some (.int .i64 (rd_T44 xs i).f0) ∧ w.cell? ⟨(ad.add (i.toNat * 3)).block, (ad.add (i.toNat * 3)).off + 1, none⟩ = some (.int .i64 (rd_T44 xs i).f1) ∧ w.cell? ⟨(ad.add (i.toNat * 3)).block, (ad.add (i.toNat * 3)).off + 2, none⟩ = some (.bool (rd_T44 xs i).f2) := by
 obtain ⟨ad, c, e, _, hK, hc0⟩ := Kd.C_get h z44 i h0 h1
 have hc : ∀ j u, c[j]? = some u → w.cell? (ad.add (i.toNat * 3 + j)) = some u := hc0
 obtain rfl := k44_open hK
 exact ⟨ad, e, hc 0 _ rfl, by rw [← add_field _ _ 1 (by omega)]; exact hc 1 _ rfl, by rw [← add_field _ _ 2 (by omega)]; exact hc 2 _ rfl⟩
end Go.Proofs.Ytipphcjgdebecaa.PA
namespace Go.Proofs.Ytipphcjgdebecaa.PA
open Go.RowKit Go.Proofs.YtipphcjgdebecaaW.PrintWords Go.Proofs.YtipphcjgdebecaaW.PrintLast Go.Proofs.YtipphcjgdebecaaW.PrintMore
attribute [local go_sem] max2_int min2_int max_two min_two max_three min_three max_four min_four
def idxI {α : Type} (p : α → Bool) (l : List α) : Int := match l.findIdx? p with | some i => (i : Int) | none => -1
theorem idxI_some {α : Type} (p : α → Bool) (l : List α) (d : α) (k : Nat) (hk : k < l.length) (hn : ∀ j, j < k → p (l.getD j d) = false) (h : p (l.getD k d) = true) : idxI p l = (k : Int) := by
 have : l.findIdx? p = some k := by
  rw [List.findIdx?_eq_some_iff_getElem]
  refine ⟨hk, by simpa [hk] using h, fun j hj => ?_⟩
  have := hn j hj
  simp [show j < l.length by omega] at this
  simp [this]
 simp [idxI, this]
theorem idxI_none {α : Type} (p : α → Bool) (l : List α) (d : α) (hn : ∀ j, j < l.length → p (l.getD j d) = false) : idxI p l = -1 := by
 have : l.findIdx? p = none := by
  rw [List.findIdx?_eq_none_iff]
  intro x hx
  obtain ⟨j, hj, rfl⟩ := List.mem_iff_getElem.1 hx
  have := hn j hj
  simpa [hj] using this
 simp [idxI, this]
theorem idxI_any {α : Type} (p : α → Bool) (l : List α) : decide (0 ≤ idxI p l) = l.any p := by
 unfold idxI
 cases h : l.findIdx? p with
 | none =>
  rw [List.findIdx?_eq_none_iff] at h
  have : l.any p = false := by simpa using h
  simp [this]
 | some i =>
  rw [List.findIdx?_eq_some_iff_getElem] at h
  obtain ⟨hi, hp, _⟩ := h
  have : l.any p = true := List.any_eq_true.2 ⟨l[i], List.getElem_mem _, hp⟩
  simp [this]
theorem R_shape {α : Type} {d : Kd α} {e : Nat} {w : World} {base : Nat} {ok : Nat → Prop} {v : Value} {xs : List α} (h : d.R e w base ok v xs) : ∃ A n c, v = .slice A n c := by
 obtain ⟨A, c, e⟩ := Kd.R_slice h
 exact ⟨A, _, c, e⟩
set_option maxHeartbeats 1000000 in
theorem idx82 (l : List Int) (A : Option Addr) (c : Nat) (p : Int → Bool) (w : World) (hr : Kd.C (Kd.int .i64) w A l.length l) (hq : ∀ (i : Int) (W : World), 0 ≤ i → i < l.length → Below w.heap.size w W → Calls Try.prog 82 #[.int .i64 (rd l i)] W fun e w' => e = .returned (.bool (p (rd l i))) ∧ Below W.heap.size W w') :
  Calls Try.prog 100 #[.slice A l.length c, .func (.func 82) #[] #[]] w fun e w' => e = .returned (.int .i64 (idxI p l)) ∧ Below w.heap.size w w' := by
 have hm := Kd.C_max hr
 have HR := qab.mk hr
 have HQ := qab.mk hq
 clear hr hq
 go_enter Try.func100, Try.ntmps100
 go_wp2
 go_loopw [8] (fun s8 wr => ∃ k : Nat, k ≤ l.length ∧ s8 = .int .i64 k ∧ qab (∀ j : Nat, j < k → p (l.getD j 0) = false) ∧ qab (Below w.heap.size w wr)) (fun s8 _ => l.length - (intOf s8).toNat)
 case atStart => exact ⟨0, by omega, rfl, ⟨fun j h1 => by omega⟩, ⟨Below.refl _ _⟩⟩
 case round =>
  obtain ⟨k, hk1, rfl, HN, HB⟩ := hrel
  by_cases hlt : k < l.length
  ·
   obtain ⟨ad, e, hc⟩ := Kd.at_int HR.out k (by omega) (by omega)
   cases e
   have hc' : wr.cell? (ad.add k) = some (.int .i64 (rd l k)) := (HB.out.cell (World.block_lt_of_cell? w _ hc)).trans hc
   clear hc
   cases hp : p (rd l k) with
   | true =>
    have HP := qab.mk hp
    clear hp
    go_wp2_with (go_at_call 82; refine (HQ.out k _ (by omega) (by omega) HB.out).mono ?_; rw [HP.out]; rintro e w1 ⟨rfl, hb⟩; have HB1 := qab.mk (qag HB.out hb); clear hb)
    go_ret
    exact ⟨by rw [idxI_some p l 0 k hlt HN.out (by simpa [rd] using HP.out)]; rfl, HB1.out⟩
   | false =>
    have HP := qab.mk hp
    clear hp
    go_wp2_with (go_at_call 82; refine (HQ.out k _ (by omega) (by omega) HB.out).mono ?_; rw [HP.out]; rintro e w1 ⟨rfl, hb⟩; have HB1 := qab.mk (qag HB.out hb); clear hb)
    go_roundw
    case rel => exact ⟨k + 1, by omega, by go_num, ⟨fun j hj => by
     rcases Nat.lt_or_ge j k with h | h
     ·
      exact HN.out j h
     ·
      obtain rfl : j = k := by omega
      simpa [rd] using HP.out⟩, HB1⟩
    case measure => simp [intOf]; omega
  ·
   go_wp2
   go_ret
   exact ⟨by rw [idxI_none p l 0 (fun j hj => HN.out j (by omega))]; rfl, HB.out⟩
theorem has82 (l : List Int) (A : Option Addr) (c : Nat) (p : Int → Bool) (w : World) (hr : Kd.C (Kd.int .i64) w A l.length l) (hq : ∀ (i : Int) (W : World), 0 ≤ i → i < l.length → Below w.heap.size w W → Calls Try.prog 82 #[.int .i64 (rd l i)] W fun e w' => e = .returned (.bool (p (rd l i))) ∧ Below W.heap.size W w') :
  Calls Try.prog 81 #[.slice A l.length c, .func (.func 82) #[] #[]] w fun e w' => e = .returned (.bool (l.any p)) ∧ Below w.heap.size w w' := by
 have HR := qab.mk hr
 have HQ := qab.mk hq
 clear hr hq
 go_enter Try.func81, Try.ntmps81
 go_wp2_with (go_at_call 100; refine (idx82  l A c p _ HR.out HQ.out).mono ?_; rintro e w1 ⟨rfl, hb⟩; have HB := qab.mk hb; clear hb)
 go_ret
 exact ⟨by rw [← idxI_any p l]; rfl, HB.out⟩
set_option maxHeartbeats 1000000 in
theorem idx84 (l : List S39) (A : Option Addr) (c : Nat) (p : S39 → Bool) (w : World) (hr : Kd.C k39 w A l.length l) (hq : ∀ (i : Int) (W : World), 0 ≤ i → i < l.length → Below w.heap.size w W → Calls Try.prog 84 #[.agg #[.int .i64 (qak l i).f0.f0, .int .i64 (qak l i).f0.f1, .int .i64 (qak l i).f1.f0, .int .i64 (qak l i).f1.f1, .int .i64 (qak l i).f2.f0, .int .i64 (qak l i).f2.f1, .int .i64 (qak l i).f3, .int .i64 (qak l i).f4, .int .i64 (qak l i).f5, .int .i64 (qak l i).f6, .int .i64 (qak l i).f7.f0, .int .i64 (qak l i).f7.f1]] W fun e w' => e = .returned (.bool (p (qak l i))) ∧ Below W.heap.size W w') :
  Calls Try.prog 101 #[.slice A l.length c, .func (.func 84) #[] #[]] w fun e w' => e = .returned (.int .i64 (idxI p l)) ∧ Below w.heap.size w w' := by
 have hm := Kd.C_max hr
 have HR := qab.mk hr
 have HQ := qab.mk hq
 clear hr hq
 go_enter Try.func101, Try.ntmps101
 go_wp2
 go_loopw [8] (fun s8 wr => ∃ k : Nat, k ≤ l.length ∧ s8 = .int .i64 k ∧ qab (∀ j : Nat, j < k → p (l.getD j z39) = false) ∧ qab (Below w.heap.size w wr)) (fun s8 _ => l.length - (intOf s8).toNat)
 case atStart => exact ⟨0, by omega, rfl, ⟨fun j h1 => by omega⟩, ⟨Below.refl _ _⟩⟩
 case round =>
  obtain ⟨k, hk1, rfl, HN, HB⟩ := hrel
  by_cases hlt : k < l.length
  ·
   obtain ⟨ad, e, hc0, hc1, hc2, hc3, hc4, hc5, hc6, hc7, hc8, hc9, hc10, hc11⟩ := at_T39 HR.out k (by omega) (by omega)
   cases e
   replace hc0 := (HB.out.cell (World.block_lt_of_cell? w _ hc0)).trans hc0
   replace hc1 := (HB.out.cell (World.block_lt_of_cell? w _ hc1)).trans hc1
   replace hc2 := (HB.out.cell (World.block_lt_of_cell? w _ hc2)).trans hc2
   replace hc3 := (HB.out.cell (World.block_lt_of_cell? w _ hc3)).trans hc3
   replace hc4 := (HB.out.cell (World.block_lt_of_cell? w _ hc4)).trans hc4
   replace hc5 := (HB.out.cell (World.block_lt_of_cell? w _ hc5)).trans hc5
   replace hc6 := (HB.out.cell (World.block_lt_of_cell? w _ hc6)).trans hc6
   replace hc7 := (HB.out.cell (World.block_lt_of_cell? w _ hc7)).trans hc7
   replace hc8 := (HB.out.cell (World.block_lt_of_cell? w _ hc8)).trans hc8
   replace hc9 := (HB.out.cell (World.block_lt_of_cell? w _ hc9)).trans hc9
   replace hc10 := (HB.out.cell (World.block_lt_of_cell? w _ hc10)).trans hc10
   replace hc11 := (HB.out.cell (World.block_lt_of_cell? w _ hc11)).trans hc11
   simp only [Int.toNat_natCast] at hc0 hc1 hc2 hc3 hc4 hc5 hc6 hc7 hc8 hc9 hc10 hc11
   have hu39 := Try.underlying39
   cases hp : p (qak l k) with
   | true =>
    have HP := qab.mk hp
    clear hp
    go_wp2_with (go_at_call 84; refine (HQ.out k _ (by omega) (by omega) HB.out).mono ?_; rw [HP.out]; rintro e w1 ⟨rfl, hb⟩; have HB1 := qab.mk (qag HB.out hb); clear hb)
    go_ret
    exact ⟨by rw [idxI_some p l z39 k hlt HN.out (by simpa [qak] using HP.out)]; rfl, HB1.out⟩
   | false =>
    have HP := qab.mk hp
    clear hp
    go_wp2_with (go_at_call 84; refine (HQ.out k _ (by omega) (by omega) HB.out).mono ?_; rw [HP.out]; rintro e w1 ⟨rfl, hb⟩; have HB1 := qab.mk (qag HB.out hb); clear hb)
    go_roundw
    case rel => exact ⟨k + 1, by omega, by go_num, ⟨fun j hj => by
     rcases Nat.lt_or_ge j k with h | h
     ·
      exact HN.out j h
     ·
      obtain rfl : j = k := by omega
      simpa [qak] using HP.out⟩, HB1⟩
    case measure => simp [intOf]; omega
  ·
   go_wp2
   go_ret
   exact ⟨by rw [idxI_none p l z39 (fun j hj => HN.out j (by omega))]; rfl, HB.out⟩
theorem has84 (l : List S39) (A : Option Addr) (c : Nat) (p : S39 → Bool) (w : World) (hr : Kd.C k39 w A l.length l) (hq : ∀ (i : Int) (W : World), 0 ≤ i → i < l.length → Below w.heap.size w W → Calls Try.prog 84 #[.agg #[.int .i64 (qak l i).f0.f0, .int .i64 (qak l i).f0.f1, .int .i64 (qak l i).f1.f0, .int .i64 (qak l i).f1.f1, .int .i64 (qak l i).f2.f0, .int .i64 (qak l i).f2.f1, .int .i64 (qak l i).f3, .int .i64 (qak l i).f4, .int .i64 (qak l i).f5, .int .i64 (qak l i).f6, .int .i64 (qak l i).f7.f0, .int .i64 (qak l i).f7.f1]] W fun e w' => e = .returned (.bool (p (qak l i))) ∧ Below W.heap.size W w') :
  Calls Try.prog 83 #[.slice A l.length c, .func (.func 84) #[] #[]] w fun e w' => e = .returned (.bool (l.any p)) ∧ Below w.heap.size w w' := by
 have HR := qab.mk hr
 have HQ := qab.mk hq
 clear hr hq
 go_enter Try.func83, Try.ntmps83
 go_wp2_with (go_at_call 101; refine (idx84  l A c p _ HR.out HQ.out).mono ?_; rintro e w1 ⟨rfl, hb⟩; have HB := qab.mk hb; clear hb)
 go_ret
 exact ⟨by rw [← idxI_any p l]; rfl, HB.out⟩
set_option maxHeartbeats 1000000 in
theorem idx87 (l : List S37) (A : Option Addr) (c : Nat) (p : S37 → Bool) (w : World) (hr : Kd.C k37 w A l.length l) (hq : ∀ (i : Int) (W : World), 0 ≤ i → i < l.length → Below w.heap.size w W → Calls Try.prog 87 #[.agg #[.int .i64 (rd_T37 l i).f0, .int .i64 (rd_T37 l i).f1]] W fun e w' => e = .returned (.bool (p (rd_T37 l i))) ∧ Below W.heap.size W w') :
  Calls Try.prog 102 #[.slice A l.length c, .func (.func 87) #[] #[]] w fun e w' => e = .returned (.int .i64 (idxI p l)) ∧ Below w.heap.size w w' := by
 have hm := Kd.C_max hr
 have HR := qab.mk hr
 have HQ := qab.mk hq
 clear hr hq
 go_enter Try.func102, Try.ntmps102
 go_wp2
 go_loopw [8] (fun s8 wr => ∃ k : Nat, k ≤ l.length ∧ s8 = .int .i64 k ∧ qab (∀ j : Nat, j < k → p (l.getD j z37) = false) ∧ qab (Below w.heap.size w wr)) (fun s8 _ => l.length - (intOf s8).toNat)
 case atStart => exact ⟨0, by omega, rfl, ⟨fun j h1 => by omega⟩, ⟨Below.refl _ _⟩⟩
 case round =>
  obtain ⟨k, hk1, rfl, HN, HB⟩ := hrel
  by_cases hlt : k < l.length
  ·
   obtain ⟨ad, e, hc0, hc1⟩ := at_T37 HR.out k (by omega) (by omega)
   cases e
   replace hc0 := (HB.out.cell (World.block_lt_of_cell? w _ hc0)).trans hc0
   replace hc1 := (HB.out.cell (World.block_lt_of_cell? w _ hc1)).trans hc1
   simp only [Int.toNat_natCast] at hc0 hc1
   have hu37 := Try.underlying37
   cases hp : p (rd_T37 l k) with
   | true =>
    have HP := qab.mk hp
    clear hp
    go_wp2_with (go_at_call 87; refine (HQ.out k _ (by omega) (by omega) HB.out).mono ?_; rw [HP.out]; rintro e w1 ⟨rfl, hb⟩; have HB1 := qab.mk (qag HB.out hb); clear hb)
    go_ret
    exact ⟨by rw [idxI_some p l z37 k hlt HN.out (by simpa [rd_T37] using HP.out)]; rfl, HB1.out⟩
   | false =>
    have HP := qab.mk hp
    clear hp
    go_wp2_with (go_at_call 87; refine (HQ.out k _ (by omega) (by omega) HB.out).mono ?_; rw [HP.out]; rintro e w1 ⟨rfl, hb⟩; have HB1 := qab.mk (qag HB.out hb); clear hb)
    go_roundw
    case rel => exact ⟨k + 1, by omega, by go_num, ⟨fun j hj => by
     rcases Nat.lt_or_ge j k with h | h
     ·
      exact HN.out j h
     ·
      obtain rfl : j = k := by omega
      simpa [rd_T37] using HP.out⟩, HB1⟩
    case measure => simp [intOf]; omega
  ·
   go_wp2
   go_ret
   exact ⟨by rw [idxI_none p l z37 (fun j hj => HN.out j (by omega))]; rfl, HB.out⟩
theorem has87 (l : List S37) (A : Option Addr) (c : Nat) (p : S37 → Bool) (w : World) (hr : Kd.C k37 w A l.length l) (hq : ∀ (i : Int) (W : World), 0 ≤ i → i < l.length → Below w.heap.size w W → Calls Try.prog 87 #[.agg #[.int .i64 (rd_T37 l i).f0, .int .i64 (rd_T37 l i).f1]] W fun e w' => e = .returned (.bool (p (rd_T37 l i))) ∧ Below W.heap.size W w') :
  Calls Try.prog 86 #[.slice A l.length c, .func (.func 87) #[] #[]] w fun e w' => e = .returned (.bool (l.any p)) ∧ Below w.heap.size w w' := by
 have HR := qab.mk hr
 have HQ := qab.mk hq
 clear hr hq
 go_enter Try.func86, Try.ntmps86
 go_wp2_with (go_at_call 102; refine (idx87  l A c p _ HR.out HQ.out).mono ?_; rintro e w1 ⟨rfl, hb⟩; have HB := qab.mk hb; clear hb)
 go_ret
 exact ⟨by rw [← idxI_any p l]; rfl, HB.out⟩
set_option maxHeartbeats 1000000 in
theorem idx95 (p0 : Value) (l : List Int) (A : Option Addr) (c : Nat) (p : Int → Bool) (w : World) (hr : Kd.C (Kd.int .i64) w A l.length l) (hq : ∀ (i : Int) (W : World), 0 ≤ i → i < l.length → Below w.heap.size w W → Calls Try.prog 95 #[.int .i64 (rd l i), p0] W fun e w' => e = .returned (.bool (p (rd l i))) ∧ Below W.heap.size W w') :
  Calls Try.prog 100 #[.slice A l.length c, .func (.func 95) #[] #[p0]] w fun e w' => e = .returned (.int .i64 (idxI p l)) ∧ Below w.heap.size w w' := by
 have hm := Kd.C_max hr
 have HR := qab.mk hr
 have HQ := qab.mk hq
 clear hr hq
 go_enter Try.func100, Try.ntmps100
 go_wp2
 go_loopw [8] (fun s8 wr => ∃ k : Nat, k ≤ l.length ∧ s8 = .int .i64 k ∧ qab (∀ j : Nat, j < k → p (l.getD j 0) = false) ∧ qab (Below w.heap.size w wr)) (fun s8 _ => l.length - (intOf s8).toNat)
 case atStart => exact ⟨0, by omega, rfl, ⟨fun j h1 => by omega⟩, ⟨Below.refl _ _⟩⟩
 case round =>
  obtain ⟨k, hk1, rfl, HN, HB⟩ := hrel
  by_cases hlt : k < l.length
  ·
   obtain ⟨ad, e, hc⟩ := Kd.at_int HR.out k (by omega) (by omega)
   cases e
   have hc' : wr.cell? (ad.add k) = some (.int .i64 (rd l k)) := (HB.out.cell (World.block_lt_of_cell? w _ hc)).trans hc
   clear hc
   cases hp : p (rd l k) with
   | true =>
    have HP := qab.mk hp
    clear hp
    go_wp2_with (go_at_call 95; refine (HQ.out k _ (by omega) (by omega) HB.out).mono ?_; rw [HP.out]; rintro e w1 ⟨rfl, hb⟩; have HB1 := qab.mk (qag HB.out hb); clear hb)
    go_ret
    exact ⟨by rw [idxI_some p l 0 k hlt HN.out (by simpa [rd] using HP.out)]; rfl, HB1.out⟩
   | false =>
    have HP := qab.mk hp
    clear hp
    go_wp2_with (go_at_call 95; refine (HQ.out k _ (by omega) (by omega) HB.out).mono ?_; rw [HP.out]; rintro e w1 ⟨rfl, hb⟩; have HB1 := qab.mk (qag HB.out hb); clear hb)
    go_roundw
    case rel => exact ⟨k + 1, by omega, by go_num, ⟨fun j hj => by
     rcases Nat.lt_or_ge j k with h | h
     ·
      exact HN.out j h
     ·
      obtain rfl : j = k := by omega
      simpa [rd] using HP.out⟩, HB1⟩
    case measure => simp [intOf]; omega
  ·
   go_wp2
   go_ret
   exact ⟨by rw [idxI_none p l 0 (fun j hj => HN.out j (by omega))]; rfl, HB.out⟩
theorem has95 (p0 : Value) (l : List Int) (A : Option Addr) (c : Nat) (p : Int → Bool) (w : World) (hr : Kd.C (Kd.int .i64) w A l.length l) (hq : ∀ (i : Int) (W : World), 0 ≤ i → i < l.length → Below w.heap.size w W → Calls Try.prog 95 #[.int .i64 (rd l i), p0] W fun e w' => e = .returned (.bool (p (rd l i))) ∧ Below W.heap.size W w') :
  Calls Try.prog 81 #[.slice A l.length c, .func (.func 95) #[] #[p0]] w fun e w' => e = .returned (.bool (l.any p)) ∧ Below w.heap.size w w' := by
 have HR := qab.mk hr
 have HQ := qab.mk hq
 clear hr hq
 go_enter Try.func81, Try.ntmps81
 go_wp2_with (go_at_call 100; refine (idx95 p0 l A c p _ HR.out HQ.out).mono ?_; rintro e w1 ⟨rfl, hb⟩; have HB := qab.mk hb; clear hb)
 go_ret
 exact ⟨by rw [← idxI_any p l]; rfl, HB.out⟩
end Go.Proofs.Ytipphcjgdebecaa.PA
namespace Go.Proofs.Ytipphcjgdebecaa.PA
open Go.RowKit Go.Proofs.YtipphcjgdebecaaW.PrintWords Go.Proofs.YtipphcjgdebecaaW.PrintLast Go.Proofs.YtipphcjgdebecaaW.PrintMore
attribute [local go_sem] max2_int min2_int max_two min_two max_three min_three max_four min_four
def pipe_in.f (a0 : Int) (a1 : Int) (a2 : Int) : Option (Bool) := if a0 ≥ a1 then (some (decide (a0 ≤ a2))) else (some false)
set_option maxHeartbeats 8000000 in
set_option maxRecDepth 100000 in
theorem pipe_in.calls (a0 : Int) (a1 : Int) (a2 : Int) (r : Bool) (w : World) (h : pipe_in.f a0 a1 a2 = some r) :
  Calls Try.prog 55 #[.int .i64 a0, .int .i64 a1, .int .i64 a2] w fun e w' => e = .returned (.bool r) ∧ Drawn0 w w' := by
 have H : (if a0 ≥ a1 then (some (decide (a0 ≤ a2))) else (some false)) = some r := h
 clear h
 by_cases c4 : a0 ≥ a1
 ·
  rw [if_pos c4] at H
  have c4b0 : decide (a1 ≤ a0) = true := decide_eq_true c4
  clear c4
  obtain rfl := Option.some.inj H
  go_enter Try.func55, Try.ntmps55
  go_wp2
  go_ret
  exact ⟨by first | rfl | (simp; done) | (simp [*]; done), by repeat (first | exact Drawn0.refl _ | apply Drawn0.step)⟩
 ·
  rw [if_neg c4] at H
  have c4b0 : decide (a1 ≤ a0) = false := decide_eq_false c4
  clear c4
  obtain rfl := Option.some.inj H
  go_enter Try.func55, Try.ntmps55
  go_wp2
  go_ret
  exact ⟨by first | rfl | (simp; done) | (simp [*]; done), by repeat (first | exact Drawn0.refl _ | apply Drawn0.step)⟩
def pipe_valid_1.f (a0 : Int) : Option (Bool) := (pipe_in.f a0 0 72).bind fun t101 => (some (!t101))
set_option maxHeartbeats 8000000 in
set_option maxRecDepth 100000 in
theorem pipe_valid_1.calls (a0 : Int) (r : Bool) (w : World) (h : pipe_valid_1.f a0 = some r) :
  Calls Try.prog 82 #[.int .i64 a0] w fun e w' => e = .returned (.bool r) ∧ Drawn0 w w' := by
 have H : ((pipe_in.f a0 0 72).bind fun t101 => (some (!t101))) = some r := h
 clear h
 replace H := Option.bind_eq_some_iff.mp H
 obtain ⟨t101, A20, H⟩ := H
 replace H : (some (!t101)) = some r := H
 have A2 := qab.mk A20
 clear A20
 obtain rfl := Option.some.inj H
 go_enter Try.func82, Try.ntmps82
 go_wp2_with (first | ((with_reducible refine gate_callee (f := 55) rfl ?_); refine goesL_ (some 4) rfl rfl Try.func55 (by kernel_rfl) rfl #[.int .i64 a0, .int .i64 0, .int .i64 72] rfl (by (try simp only [List.map_toArray, List.map_cons, List.map_nil]); first | done | rfl | (simp only [List.length_drop, List.length_take]; rfl)) ?_; (with_reducible refine (pipe_in.calls a0 0 72 t101 _ A2.out).mono ?_); rintro e w' ⟨rfl, ⟨nd, rfl⟩⟩; refine ⟨_, rfl, ?_⟩))
 go_ret
 exact ⟨by first | rfl | (simp; done) | (simp [*]; done), by repeat (first | exact Drawn0.refl _ | apply Drawn0.step)⟩
def pipe_span.f (a0_0 : Int) (a0_1 : Int) (a1 : Int) (a2 : Int) : Option (Bool) := if a0_0 ≥ a1 then (if a0_0 ≤ a0_1 then (some (decide (a0_1 ≤ a2))) else (some false)) else (some false)
set_option maxHeartbeats 8000000 in
set_option maxRecDepth 100000 in
theorem pipe_span.calls (a0_0 : Int) (a0_1 : Int) (a1 : Int) (a2 : Int) (r : Bool) (w : World) (h : pipe_span.f a0_0 a0_1 a1 a2 = some r) :
  Calls Try.prog 88 #[.agg #[.int .i64 a0_0, .int .i64 a0_1], .int .i64 a1, .int .i64 a2] w fun e w' => e = .returned (.bool r) ∧ Below w.heap.size w w' := by
 have hu37 := Try.underlying37
 have HB := qab.mk (Below.refl w.heap.size w)
 have H : (if a0_0 ≥ a1 then (if a0_0 ≤ a0_1 then (some (decide (a0_1 ≤ a2))) else (some false)) else (some false)) = some r := h
 clear h
 by_cases c4 : a0_0 ≥ a1
 ·
  rw [if_pos c4] at H
  have c4b0 : decide (a1 ≤ a0_0) = true := decide_eq_true c4
  clear c4
  by_cases c5 : a0_0 ≤ a0_1
  ·
   rw [if_pos c5] at H
   have c5b0 : decide (a0_0 ≤ a0_1) = true := decide_eq_true c5
   clear c5
   obtain rfl := Option.some.inj H
   go_enter Try.func88, Try.ntmps88
   go_wp2_with (first | ((with_reducible refine qar (N := 3) rfl ?_); refine qap ?hg (N := 3) ?hd (cs := #[.int .i64 a0_0, .int .i64 a0_1]) (t := 37) ?hr ?_; (case hd => rfl); (case hg => rfl); (case hr => first | (go_simp; done) | (go_simp; rfl)); intro gb102 hg w6 hbox hb; have n0_ := qab.mk (qag (by repeat (first | (with_reducible first | exact HB.out | apply qae | apply qad | apply qaf) | exact HB.out)) hb); have n1_ := qab.mk (hbox); have n2_ := qab.mk ((by rw [hg]; exact (qan (by repeat (first | (with_reducible first | exact HB.out | apply qae | apply qad | apply qaf) | exact HB.out))) : w.heap.size ≤ gb102)); have n3_ := qab.mk ((by rw [hg]; exact (qan (by repeat (first | (with_reducible first | exact HB.out | apply qae | apply qad | apply qaf) | exact HB.out))) : w.heap.size ≤ gb102)); clear HB; have HB := n0_; have BK102 := n1_; have GW102 := n2_; have GE102 := n3_; clear n0_ n1_ n2_ n3_; clear hb hbox hg; have hcz7_0 : w6.cell? ⟨gb102, 0, none⟩ = some (.int .i64 a0_0) := (qaa BK102.out 0).trans rfl; have hcz7_1 : w6.cell? ⟨gb102, 1, none⟩ = some (.int .i64 a0_1) := (qaa BK102.out 1).trans rfl; have hfz7_0 := qac BK102.out 0; have hfz7_1 := qac BK102.out 1))
   go_ret
   exact ⟨by first | rfl | (simp [qas, qat] <;> rfl) | (simp [*, qas, qat] <;> rfl), by repeat (first | (with_reducible first | exact HB.out | apply qae | apply qad | apply qaf | refine qai ?_ GE102.out) | exact HB.out)⟩
  ·
   rw [if_neg c5] at H
   have c5b0 : decide (a0_0 ≤ a0_1) = false := decide_eq_false c5
   clear c5
   obtain rfl := Option.some.inj H
   go_enter Try.func88, Try.ntmps88
   go_wp2_with (first | ((with_reducible refine qar (N := 3) rfl ?_); refine qap ?hg (N := 3) ?hd (cs := #[.int .i64 a0_0, .int .i64 a0_1]) (t := 37) ?hr ?_; (case hd => rfl); (case hg => rfl); (case hr => first | (go_simp; done) | (go_simp; rfl)); intro gb102 hg w8 hbox hb; have n0_ := qab.mk (qag (by repeat (first | (with_reducible first | exact HB.out | apply qae | apply qad | apply qaf) | exact HB.out)) hb); have n1_ := qab.mk (hbox); have n2_ := qab.mk ((by rw [hg]; exact (qan (by repeat (first | (with_reducible first | exact HB.out | apply qae | apply qad | apply qaf) | exact HB.out))) : w.heap.size ≤ gb102)); have n3_ := qab.mk ((by rw [hg]; exact (qan (by repeat (first | (with_reducible first | exact HB.out | apply qae | apply qad | apply qaf) | exact HB.out))) : w.heap.size ≤ gb102)); clear HB; have HB := n0_; have BK102 := n1_; have GW102 := n2_; have GE102 := n3_; clear n0_ n1_ n2_ n3_; clear hb hbox hg; have hcz9_0 : w8.cell? ⟨gb102, 0, none⟩ = some (.int .i64 a0_0) := (qaa BK102.out 0).trans rfl; have hcz9_1 : w8.cell? ⟨gb102, 1, none⟩ = some (.int .i64 a0_1) := (qaa BK102.out 1).trans rfl; have hfz9_0 := qac BK102.out 0; have hfz9_1 := qac BK102.out 1))
   go_ret
   exact ⟨by first | rfl | (simp [qas, qat] <;> rfl) | (simp [*, qas, qat] <;> rfl), by repeat (first | (with_reducible first | exact HB.out | apply qae | apply qad | apply qaf | refine qai ?_ GE102.out) | exact HB.out)⟩
 ·
  rw [if_neg c4] at H
  have c4b0 : decide (a1 ≤ a0_0) = false := decide_eq_false c4
  clear c4
  obtain rfl := Option.some.inj H
  go_enter Try.func88, Try.ntmps88
  go_wp2_with (first | ((with_reducible refine qar (N := 3) rfl ?_); refine qap ?hg (N := 3) ?hd (cs := #[.int .i64 a0_0, .int .i64 a0_1]) (t := 37) ?hr ?_; (case hd => rfl); (case hg => rfl); (case hr => first | (go_simp; done) | (go_simp; rfl)); intro gb102 hg w10 hbox hb; have n0_ := qab.mk (qag (by repeat (first | (with_reducible first | exact HB.out | apply qae | apply qad | apply qaf) | exact HB.out)) hb); have n1_ := qab.mk (hbox); have n2_ := qab.mk ((by rw [hg]; exact (qan (by repeat (first | (with_reducible first | exact HB.out | apply qae | apply qad | apply qaf) | exact HB.out))) : w.heap.size ≤ gb102)); have n3_ := qab.mk ((by rw [hg]; exact (qan (by repeat (first | (with_reducible first | exact HB.out | apply qae | apply qad | apply qaf) | exact HB.out))) : w.heap.size ≤ gb102)); clear HB; have HB := n0_; have BK102 := n1_; have GW102 := n2_; have GE102 := n3_; clear n0_ n1_ n2_ n3_; clear hb hbox hg; have hcz11_0 : w10.cell? ⟨gb102, 0, none⟩ = some (.int .i64 a0_0) := (qaa BK102.out 0).trans rfl; have hcz11_1 : w10.cell? ⟨gb102, 1, none⟩ = some (.int .i64 a0_1) := (qaa BK102.out 1).trans rfl; have hfz11_0 := qac BK102.out 0; have hfz11_1 := qac BK102.out 1))
  go_ret
  exact ⟨by first | rfl | (simp [qas, qat] <;> rfl) | (simp [*, qas, qat] <;> rfl), by repeat (first | (with_reducible first | exact HB.out | apply qae | apply qad | apply qaf | refine qai ?_ GE102.out) | exact HB.out)⟩
end Go.Proofs.Ytipphcjgdebecaa.PA
namespace Go.Proofs.Ytipphcjgdebecaa.PA
open Go.RowKit Go.Proofs.YtipphcjgdebecaaW.PrintWords Go.Proofs.YtipphcjgdebecaaW.PrintLast Go.Proofs.YtipphcjgdebecaaW.PrintMore
attribute [local go_sem] max2_int min2_int max_two min_two max_three min_three max_four min_four
theorem pipe_span_tot (a b lo hi : Int) : ∃ r, pipe_span.f a b lo hi = some r := by
 unfold pipe_span.f
 split
 ·
  split
  ·
   exact ⟨_, rfl⟩
  ·
   exact ⟨_, rfl⟩
 ·
  exact ⟨_, rfl⟩
theorem pipe_in_tot (a lo hi : Int) : ∃ r, pipe_in.f a lo hi = some r := by
 unfold pipe_in.f
 split
 ·
  exact ⟨_, rfl⟩
 ·
  exact ⟨_, rfl⟩
theorem pipe_span_to {f : Nat} {args : Array Value} {W : World} {r : Bool} (h : Calls Try.prog f args W fun e w' => e = .returned (.bool r) ∧ Below W.heap.size W w') : Calls Try.prog f args W fun e w' => e = .returned (.bool r) ∧ Below W.heap.size W w' := h
theorem pipe_in_to {f : Nat} {args : Array Value} {W : World} {r : Bool} (h : Calls Try.prog f args W fun e w' => e = .returned (.bool r) ∧ Drawn0 W w') : Calls Try.prog f args W fun e w' => e = .returned (.bool r) ∧ Below W.heap.size W w' := h.mono fun e w' ⟨h1, h2⟩ => ⟨h1, h2.below⟩
def pipe_loop.f (a0_0 : Int) (a0_1 : Int) (a0_2 : Int) (a0_3 : Int) (a0_4 : Int) (a0_5 : Int) (a0_6 : Int) (a0_7 : Int) (a0_8 : Int) (a0_9 : Int) (a0_10 : Int) (a0_11 : Int) : Option (Bool) := (pipe_span.f a0_0 a0_1 1 1000).bind fun t104 => (if t104 = true then ((pipe_span.f a0_2 a0_3 0 1000).bind fun t105 => (if t105 = true then ((pipe_span.f a0_4 a0_5 0 1000).bind fun t106 => (if t106 = true then (if a0_4 ≤ a0_2 then (if a0_5 ≤ a0_3 then ((pipe_in.f a0_6 0 1000000).bind fun t107 => (if t107 = true then ((pipe_in.f a0_7 1 10000).bind fun t108 => (if t108 = true then ((pipe_in.f a0_8 0 1000).bind fun t109 => (if t109 = true then ((pipe_in.f a0_9 0 1000).bind fun t110 => (if t110 = true then ((pipe_span.f a0_10 a0_11 0 72).bind fun t111 => (some t111)) else (some false))) else (some false))) else (some false))) else (some false))) else (some false)) else (some false)) else (some false))) else (some false))) else (some false))
set_option maxHeartbeats 8000000 in
set_option maxRecDepth 100000 in
theorem pipe_loop.calls (a0_0 : Int) (a0_1 : Int) (a0_2 : Int) (a0_3 : Int) (a0_4 : Int) (a0_5 : Int) (a0_6 : Int) (a0_7 : Int) (a0_8 : Int) (a0_9 : Int) (a0_10 : Int) (a0_11 : Int) (r : Bool) (w : World) (h : pipe_loop.f a0_0 a0_1 a0_2 a0_3 a0_4 a0_5 a0_6 a0_7 a0_8 a0_9 a0_10 a0_11 = some r) :
  Calls Try.prog 85 #[.agg #[.int .i64 a0_0, .int .i64 a0_1, .int .i64 a0_2, .int .i64 a0_3, .int .i64 a0_4, .int .i64 a0_5, .int .i64 a0_6, .int .i64 a0_7, .int .i64 a0_8, .int .i64 a0_9, .int .i64 a0_10, .int .i64 a0_11]] w fun e w' => e = .returned (.bool r) ∧ Below w.heap.size w w' := by
 obtain ⟨b1, e_b1⟩ := pipe_span_tot a0_0 a0_1 1 1000
 obtain ⟨b2, e_b2⟩ := pipe_span_tot a0_2 a0_3 0 1000
 obtain ⟨b3, e_b3⟩ := pipe_span_tot a0_4 a0_5 0 1000
 obtain ⟨b10, e_b10⟩ := pipe_span_tot a0_10 a0_11 0 72
 obtain ⟨b6, e_b6⟩ := pipe_in_tot a0_6 0 1000000
 obtain ⟨b7, e_b7⟩ := pipe_in_tot a0_7 1 10000
 obtain ⟨b8, e_b8⟩ := pipe_in_tot a0_8 0 1000
 obtain ⟨b9, e_b9⟩ := pipe_in_tot a0_9 0 1000
 unfold pipe_loop.f at h
 rw [e_b1, e_b2, e_b3, e_b6, e_b7, e_b8, e_b9, e_b10] at h
 simp only [Option.bind_some] at h
 have H_b1 : qab (∀ W, Calls Try.prog 88 #[.agg #[.int .i64 a0_0, .int .i64 a0_1], .int .i64 1, .int .i64 1000] W fun e w' => e = .returned (.bool b1) ∧ Below W.heap.size W w') := ⟨fun W => pipe_span_to (pipe_span.calls _ _ _ _ _ W e_b1)⟩
 have H_b2 : qab (∀ W, Calls Try.prog 88 #[.agg #[.int .i64 a0_2, .int .i64 a0_3], .int .i64 0, .int .i64 1000] W fun e w' => e = .returned (.bool b2) ∧ Below W.heap.size W w') := ⟨fun W => pipe_span_to (pipe_span.calls _ _ _ _ _ W e_b2)⟩
 have H_b3 : qab (∀ W, Calls Try.prog 88 #[.agg #[.int .i64 a0_4, .int .i64 a0_5], .int .i64 0, .int .i64 1000] W fun e w' => e = .returned (.bool b3) ∧ Below W.heap.size W w') := ⟨fun W => pipe_span_to (pipe_span.calls _ _ _ _ _ W e_b3)⟩
 have H_b10 : qab (∀ W, Calls Try.prog 88 #[.agg #[.int .i64 a0_10, .int .i64 a0_11], .int .i64 0, .int .i64 72] W fun e w' => e = .returned (.bool b10) ∧ Below W.heap.size W w') := ⟨fun W => pipe_span_to (pipe_span.calls _ _ _ _ _ W e_b10)⟩
 have H_b6 : qab (∀ W, Calls Try.prog 55 #[.int .i64 a0_6, .int .i64 0, .int .i64 1000000] W fun e w' => e = .returned (.bool b6) ∧ Below W.heap.size W w') := ⟨fun W => pipe_in_to (pipe_in.calls _ _ _ _ W e_b6)⟩
 have H_b7 : qab (∀ W, Calls Try.prog 55 #[.int .i64 a0_7, .int .i64 1, .int .i64 10000] W fun e w' => e = .returned (.bool b7) ∧ Below W.heap.size W w') := ⟨fun W => pipe_in_to (pipe_in.calls _ _ _ _ W e_b7)⟩
 have H_b8 : qab (∀ W, Calls Try.prog 55 #[.int .i64 a0_8, .int .i64 0, .int .i64 1000] W fun e w' => e = .returned (.bool b8) ∧ Below W.heap.size W w') := ⟨fun W => pipe_in_to (pipe_in.calls _ _ _ _ W e_b8)⟩
 have H_b9 : qab (∀ W, Calls Try.prog 55 #[.int .i64 a0_9, .int .i64 0, .int .i64 1000] W fun e w' => e = .returned (.bool b9) ∧ Below W.heap.size W w') := ⟨fun W => pipe_in_to (pipe_in.calls _ _ _ _ W e_b9)⟩
 clear e_b1 e_b2 e_b3 e_b6 e_b7 e_b8 e_b9 e_b10
 have hu39 := Try.underlying39
 have hu37 := Try.underlying37
 have HB := qab.mk (Below.refl w.heap.size w)
 cases b1; rotate_left; cases b2; rotate_left; cases b3; rotate_left; by_cases c4 : a0_4 ≤ a0_2; by_cases c5 : a0_5 ≤ a0_3; cases b6; rotate_left; cases b7; rotate_left; cases b8; rotate_left; cases b9; rotate_left; cases b10
 all_goals
  have hr : r = _ := Option.some.inj (Eq.symm (by first | exact h | (simp only [Bool.false_eq_true, if_true, if_false] at h; exact h) | (simp only [c4, Bool.false_eq_true, if_true, if_false] at h; exact h) | (simp only [c4, c5, Bool.false_eq_true, if_true, if_false] at h; exact h)))
  subst hr
  clear h
  go_enter Try.func85, Try.ntmps85
  go_wp2_with (first | ((with_reducible refine qar (N := 1) rfl ?_); refine qap ?hg (N := 1) ?hd (cs := #[.int .i64 a0_0, .int .i64 a0_1, .int .i64 a0_2, .int .i64 a0_3, .int .i64 a0_4, .int .i64 a0_5, .int .i64 a0_6, .int .i64 a0_7, .int .i64 a0_8, .int .i64 a0_9, .int .i64 a0_10, .int .i64 a0_11]) (t := 39) ?hr ?_; (case hd => rfl); (case hg => rfl); (case hr => first | (go_simp; done) | (go_simp; rfl)); intro gb hg_gb w2 hbox hb; have BKgb := qab.mk hbox; have n_HB := qab.mk (qag HB.out hb); have GEgb : w.heap.size ≤ gb := (by rw [hg_gb]; exact HB.out.size); clear HB; have HB := n_HB; clear n_HB; have hfgb := qac BKgb.out; have hcgb_0 : w2.cell? ⟨gb, 0, none⟩ = some (.int .i64 a0_0) := (qaa BKgb.out 0).trans rfl; have hcgb_1 : w2.cell? ⟨gb, 1, none⟩ = some (.int .i64 a0_1) := (qaa BKgb.out 1).trans rfl; have hcgb_2 : w2.cell? ⟨gb, 2, none⟩ = some (.int .i64 a0_2) := (qaa BKgb.out 2).trans rfl; have hcgb_3 : w2.cell? ⟨gb, 3, none⟩ = some (.int .i64 a0_3) := (qaa BKgb.out 3).trans rfl; have hcgb_4 : w2.cell? ⟨gb, 4, none⟩ = some (.int .i64 a0_4) := (qaa BKgb.out 4).trans rfl; have hcgb_5 : w2.cell? ⟨gb, 5, none⟩ = some (.int .i64 a0_5) := (qaa BKgb.out 5).trans rfl; have hcgb_6 : w2.cell? ⟨gb, 6, none⟩ = some (.int .i64 a0_6) := (qaa BKgb.out 6).trans rfl; have hcgb_7 : w2.cell? ⟨gb, 7, none⟩ = some (.int .i64 a0_7) := (qaa BKgb.out 7).trans rfl; have hcgb_8 : w2.cell? ⟨gb, 8, none⟩ = some (.int .i64 a0_8) := (qaa BKgb.out 8).trans rfl; have hcgb_9 : w2.cell? ⟨gb, 9, none⟩ = some (.int .i64 a0_9) := (qaa BKgb.out 9).trans rfl; have hcgb_10 : w2.cell? ⟨gb, 10, none⟩ = some (.int .i64 a0_10) := (qaa BKgb.out 10).trans rfl; have hcgb_11 : w2.cell? ⟨gb, 11, none⟩ = some (.int .i64 a0_11) := (qaa BKgb.out 11).trans rfl; clear hbox hb hg_gb; clear hfgb) | (go_at_call 88; with_reducible refine (H_b1.out _).mono ?_; rintro e w3 ⟨rfl, hb⟩; have n_BKgb := qab.mk (qah BKgb.out hb); clear BKgb; have BKgb := n_BKgb; clear n_BKgb; have n_HB := qab.mk (qag HB.out hb); clear HB; have HB := n_HB; clear n_HB; clear hb; have q2 : w3.cell? ⟨gb, 2, none⟩ = some (.int .i64 a0_2) := (qaa BKgb.out 2).trans rfl; have q3 : w3.cell? ⟨gb, 3, none⟩ = some (.int .i64 a0_3) := (qaa BKgb.out 3).trans rfl; have q4 : w3.cell? ⟨gb, 4, none⟩ = some (.int .i64 a0_4) := (qaa BKgb.out 4).trans rfl; have q5 : w3.cell? ⟨gb, 5, none⟩ = some (.int .i64 a0_5) := (qaa BKgb.out 5).trans rfl; have q6 : w3.cell? ⟨gb, 6, none⟩ = some (.int .i64 a0_6) := (qaa BKgb.out 6).trans rfl; have q7 : w3.cell? ⟨gb, 7, none⟩ = some (.int .i64 a0_7) := (qaa BKgb.out 7).trans rfl; have q8 : w3.cell? ⟨gb, 8, none⟩ = some (.int .i64 a0_8) := (qaa BKgb.out 8).trans rfl; have q9 : w3.cell? ⟨gb, 9, none⟩ = some (.int .i64 a0_9) := (qaa BKgb.out 9).trans rfl; have q10 : w3.cell? ⟨gb, 10, none⟩ = some (.int .i64 a0_10) := (qaa BKgb.out 10).trans rfl; have q11 : w3.cell? ⟨gb, 11, none⟩ = some (.int .i64 a0_11) := (qaa BKgb.out 11).trans rfl) | (go_at_call 88; with_reducible refine (H_b2.out _).mono ?_; rintro e w4 ⟨rfl, hb⟩; have n_BKgb := qab.mk (qah BKgb.out hb); clear BKgb; have BKgb := n_BKgb; clear n_BKgb; have n_HB := qab.mk (qag HB.out hb); clear HB; have HB := n_HB; clear n_HB; clear hb; have q2 : w4.cell? ⟨gb, 2, none⟩ = some (.int .i64 a0_2) := (qaa BKgb.out 2).trans rfl; have q3 : w4.cell? ⟨gb, 3, none⟩ = some (.int .i64 a0_3) := (qaa BKgb.out 3).trans rfl; have q4 : w4.cell? ⟨gb, 4, none⟩ = some (.int .i64 a0_4) := (qaa BKgb.out 4).trans rfl; have q5 : w4.cell? ⟨gb, 5, none⟩ = some (.int .i64 a0_5) := (qaa BKgb.out 5).trans rfl; have q6 : w4.cell? ⟨gb, 6, none⟩ = some (.int .i64 a0_6) := (qaa BKgb.out 6).trans rfl; have q7 : w4.cell? ⟨gb, 7, none⟩ = some (.int .i64 a0_7) := (qaa BKgb.out 7).trans rfl; have q8 : w4.cell? ⟨gb, 8, none⟩ = some (.int .i64 a0_8) := (qaa BKgb.out 8).trans rfl; have q9 : w4.cell? ⟨gb, 9, none⟩ = some (.int .i64 a0_9) := (qaa BKgb.out 9).trans rfl; have q10 : w4.cell? ⟨gb, 10, none⟩ = some (.int .i64 a0_10) := (qaa BKgb.out 10).trans rfl; have q11 : w4.cell? ⟨gb, 11, none⟩ = some (.int .i64 a0_11) := (qaa BKgb.out 11).trans rfl) | (go_at_call 88; with_reducible refine (H_b3.out _).mono ?_; rintro e w5 ⟨rfl, hb⟩; have n_BKgb := qab.mk (qah BKgb.out hb); clear BKgb; have BKgb := n_BKgb; clear n_BKgb; have n_HB := qab.mk (qag HB.out hb); clear HB; have HB := n_HB; clear n_HB; clear hb; have q2 : w5.cell? ⟨gb, 2, none⟩ = some (.int .i64 a0_2) := (qaa BKgb.out 2).trans rfl; have q3 : w5.cell? ⟨gb, 3, none⟩ = some (.int .i64 a0_3) := (qaa BKgb.out 3).trans rfl; have q4 : w5.cell? ⟨gb, 4, none⟩ = some (.int .i64 a0_4) := (qaa BKgb.out 4).trans rfl; have q5 : w5.cell? ⟨gb, 5, none⟩ = some (.int .i64 a0_5) := (qaa BKgb.out 5).trans rfl; have q6 : w5.cell? ⟨gb, 6, none⟩ = some (.int .i64 a0_6) := (qaa BKgb.out 6).trans rfl; have q7 : w5.cell? ⟨gb, 7, none⟩ = some (.int .i64 a0_7) := (qaa BKgb.out 7).trans rfl; have q8 : w5.cell? ⟨gb, 8, none⟩ = some (.int .i64 a0_8) := (qaa BKgb.out 8).trans rfl; have q9 : w5.cell? ⟨gb, 9, none⟩ = some (.int .i64 a0_9) := (qaa BKgb.out 9).trans rfl; have q10 : w5.cell? ⟨gb, 10, none⟩ = some (.int .i64 a0_10) := (qaa BKgb.out 10).trans rfl; have q11 : w5.cell? ⟨gb, 11, none⟩ = some (.int .i64 a0_11) := (qaa BKgb.out 11).trans rfl) | (go_at_call 55; with_reducible refine (H_b6.out _).mono ?_; rintro e w6 ⟨rfl, hb⟩; have n_BKgb := qab.mk (qah BKgb.out hb); clear BKgb; have BKgb := n_BKgb; clear n_BKgb; have n_HB := qab.mk (qag HB.out hb); clear HB; have HB := n_HB; clear n_HB; clear hb; have q7 : w6.cell? ⟨gb, 7, none⟩ = some (.int .i64 a0_7) := (qaa BKgb.out 7).trans rfl; have q8 : w6.cell? ⟨gb, 8, none⟩ = some (.int .i64 a0_8) := (qaa BKgb.out 8).trans rfl; have q9 : w6.cell? ⟨gb, 9, none⟩ = some (.int .i64 a0_9) := (qaa BKgb.out 9).trans rfl; have q10 : w6.cell? ⟨gb, 10, none⟩ = some (.int .i64 a0_10) := (qaa BKgb.out 10).trans rfl; have q11 : w6.cell? ⟨gb, 11, none⟩ = some (.int .i64 a0_11) := (qaa BKgb.out 11).trans rfl) | (go_at_call 55; with_reducible refine (H_b7.out _).mono ?_; rintro e w7 ⟨rfl, hb⟩; have n_BKgb := qab.mk (qah BKgb.out hb); clear BKgb; have BKgb := n_BKgb; clear n_BKgb; have n_HB := qab.mk (qag HB.out hb); clear HB; have HB := n_HB; clear n_HB; clear hb; have q8 : w7.cell? ⟨gb, 8, none⟩ = some (.int .i64 a0_8) := (qaa BKgb.out 8).trans rfl; have q9 : w7.cell? ⟨gb, 9, none⟩ = some (.int .i64 a0_9) := (qaa BKgb.out 9).trans rfl; have q10 : w7.cell? ⟨gb, 10, none⟩ = some (.int .i64 a0_10) := (qaa BKgb.out 10).trans rfl; have q11 : w7.cell? ⟨gb, 11, none⟩ = some (.int .i64 a0_11) := (qaa BKgb.out 11).trans rfl) | (go_at_call 55; with_reducible refine (H_b8.out _).mono ?_; rintro e w8 ⟨rfl, hb⟩; have n_BKgb := qab.mk (qah BKgb.out hb); clear BKgb; have BKgb := n_BKgb; clear n_BKgb; have n_HB := qab.mk (qag HB.out hb); clear HB; have HB := n_HB; clear n_HB; clear hb; have q9 : w8.cell? ⟨gb, 9, none⟩ = some (.int .i64 a0_9) := (qaa BKgb.out 9).trans rfl; have q10 : w8.cell? ⟨gb, 10, none⟩ = some (.int .i64 a0_10) := (qaa BKgb.out 10).trans rfl; have q11 : w8.cell? ⟨gb, 11, none⟩ = some (.int .i64 a0_11) := (qaa BKgb.out 11).trans rfl) | (go_at_call 55; with_reducible refine (H_b9.out _).mono ?_; rintro e w9 ⟨rfl, hb⟩; have n_BKgb := qab.mk (qah BKgb.out hb); clear BKgb; have BKgb := n_BKgb; clear n_BKgb; have n_HB := qab.mk (qag HB.out hb); clear HB; have HB := n_HB; clear n_HB; clear hb; have q10 : w9.cell? ⟨gb, 10, none⟩ = some (.int .i64 a0_10) := (qaa BKgb.out 10).trans rfl; have q11 : w9.cell? ⟨gb, 11, none⟩ = some (.int .i64 a0_11) := (qaa BKgb.out 11).trans rfl) | (go_at_call 88; with_reducible refine (H_b10.out _).mono ?_; rintro e w10 ⟨rfl, hb⟩; have n_BKgb := qab.mk (qah BKgb.out hb); clear BKgb; have BKgb := n_BKgb; clear n_BKgb; have n_HB := qab.mk (qag HB.out hb); clear HB; have HB := n_HB; clear n_HB; clear hb))
  go_ret
  exact ⟨rfl, HB.out⟩
end Go.Proofs.Ytipphcjgdebecaa.PA
namespace Go.Proofs.Ytipphcjgdebecaa.PA
open Go.RowKit Go.Proofs.YtipphcjgdebecaaW.PrintWords Go.Proofs.YtipphcjgdebecaaW.PrintLast Go.Proofs.YtipphcjgdebecaaW.PrintMore
attribute [local go_sem] max2_int min2_int max_two min_two max_three min_three max_four min_four
def pipe_valid_2.f (a0_0 : Int) (a0_1 : Int) (a0_2 : Int) (a0_3 : Int) (a0_4 : Int) (a0_5 : Int) (a0_6 : Int) (a0_7 : Int) (a0_8 : Int) (a0_9 : Int) (a0_10 : Int) (a0_11 : Int) : Option (Bool) := (pipe_loop.f a0_0 a0_1 a0_2 a0_3 a0_4 a0_5 a0_6 a0_7 a0_8 a0_9 a0_10 a0_11).bind fun t104 => (some (!t104))
set_option maxHeartbeats 8000000 in
set_option maxRecDepth 100000 in
theorem pipe_valid_2.calls (a0_0 : Int) (a0_1 : Int) (a0_2 : Int) (a0_3 : Int) (a0_4 : Int) (a0_5 : Int) (a0_6 : Int) (a0_7 : Int) (a0_8 : Int) (a0_9 : Int) (a0_10 : Int) (a0_11 : Int) (r : Bool) (w : World) (h : pipe_valid_2.f a0_0 a0_1 a0_2 a0_3 a0_4 a0_5 a0_6 a0_7 a0_8 a0_9 a0_10 a0_11 = some r) :
  Calls Try.prog 84 #[.agg #[.int .i64 a0_0, .int .i64 a0_1, .int .i64 a0_2, .int .i64 a0_3, .int .i64 a0_4, .int .i64 a0_5, .int .i64 a0_6, .int .i64 a0_7, .int .i64 a0_8, .int .i64 a0_9, .int .i64 a0_10, .int .i64 a0_11]] w fun e w' => e = .returned (.bool r) ∧ Below w.heap.size w w' := by
 have hu39 := Try.underlying39
 have HB := qab.mk (Below.refl w.heap.size w)
 have H : ((pipe_loop.f a0_0 a0_1 a0_2 a0_3 a0_4 a0_5 a0_6 a0_7 a0_8 a0_9 a0_10 a0_11).bind fun t104 => (some (!t104))) = some r := h
 clear h
 replace H := Option.bind_eq_some_iff.mp H
 obtain ⟨t104, A20, H⟩ := H
 replace H : (some (!t104)) = some r := H
 have A2 := qab.mk A20
 clear A20
 obtain rfl := Option.some.inj H
 go_enter Try.func84, Try.ntmps84
 go_wp2_with (first | ((with_reducible refine qar (N := 1) rfl ?_); refine qap ?hg (N := 1) ?hd (cs := #[.int .i64 a0_0, .int .i64 a0_1, .int .i64 a0_2, .int .i64 a0_3, .int .i64 a0_4, .int .i64 a0_5, .int .i64 a0_6, .int .i64 a0_7, .int .i64 a0_8, .int .i64 a0_9, .int .i64 a0_10, .int .i64 a0_11]) (t := 39) ?hr ?_; (case hd => rfl); (case hg => rfl); (case hr => first | (go_simp; done) | (go_simp; rfl)); intro gb103 hg w3 hbox hb; have n0_ := qab.mk (qag (by repeat (first | (with_reducible first | exact HB.out | apply qae | apply qad | apply qaf) | exact HB.out)) hb); have n1_ := qab.mk (hbox); have n2_ := qab.mk ((by rw [hg]; exact (qan (by repeat (first | (with_reducible first | exact HB.out | apply qae | apply qad | apply qaf) | exact HB.out))) : w.heap.size ≤ gb103)); have n3_ := qab.mk ((by rw [hg]; exact (qan (by repeat (first | (with_reducible first | exact HB.out | apply qae | apply qad | apply qaf) | exact HB.out))) : w.heap.size ≤ gb103)); clear HB; have HB := n0_; have BK103 := n1_; have GW103 := n2_; have GE103 := n3_; clear n0_ n1_ n2_ n3_; clear hb hbox hg; have hcz4_0 : w3.cell? ⟨gb103, 0, none⟩ = some (.int .i64 a0_0) := (qaa BK103.out 0).trans rfl; have hcz4_1 : w3.cell? ⟨gb103, 1, none⟩ = some (.int .i64 a0_1) := (qaa BK103.out 1).trans rfl; have hcz4_2 : w3.cell? ⟨gb103, 2, none⟩ = some (.int .i64 a0_2) := (qaa BK103.out 2).trans rfl; have hcz4_3 : w3.cell? ⟨gb103, 3, none⟩ = some (.int .i64 a0_3) := (qaa BK103.out 3).trans rfl; have hcz4_4 : w3.cell? ⟨gb103, 4, none⟩ = some (.int .i64 a0_4) := (qaa BK103.out 4).trans rfl; have hcz4_5 : w3.cell? ⟨gb103, 5, none⟩ = some (.int .i64 a0_5) := (qaa BK103.out 5).trans rfl; have hcz4_6 : w3.cell? ⟨gb103, 6, none⟩ = some (.int .i64 a0_6) := (qaa BK103.out 6).trans rfl; have hcz4_7 : w3.cell? ⟨gb103, 7, none⟩ = some (.int .i64 a0_7) := (qaa BK103.out 7).trans rfl; have hcz4_8 : w3.cell? ⟨gb103, 8, none⟩ = some (.int .i64 a0_8) := (qaa BK103.out 8).trans rfl; have hcz4_9 : w3.cell? ⟨gb103, 9, none⟩ = some (.int .i64 a0_9) := (qaa BK103.out 9).trans rfl; have hcz4_10 : w3.cell? ⟨gb103, 10, none⟩ = some (.int .i64 a0_10) := (qaa BK103.out 10).trans rfl; have hcz4_11 : w3.cell? ⟨gb103, 11, none⟩ = some (.int .i64 a0_11) := (qaa BK103.out 11).trans rfl; have hfz4_0 := qac BK103.out 0; have hfz4_1 := qac BK103.out 1; have hfz4_2 := qac BK103.out 2; have hfz4_3 := qac BK103.out 3; have hfz4_4 := qac BK103.out 4; have hfz4_5 := qac BK103.out 5; have hfz4_6 := qac BK103.out 6; have hfz4_7 := qac BK103.out 7; have hfz4_8 := qac BK103.out 8; have hfz4_9 := qac BK103.out 9; have hfz4_10 := qac BK103.out 10; have hfz4_11 := qac BK103.out 11) | ((with_reducible refine gate_callee (f := 85) rfl ?_); refine goesL_ (some 4) rfl rfl Try.func85 (by kernel_rfl) rfl #[.agg #[.int .i64 a0_0, .int .i64 a0_1, .int .i64 a0_2, .int .i64 a0_3, .int .i64 a0_4, .int .i64 a0_5, .int .i64 a0_6, .int .i64 a0_7, .int .i64 a0_8, .int .i64 a0_9, .int .i64 a0_10, .int .i64 a0_11]] rfl (by (try simp only [List.map_toArray, List.map_cons, List.map_nil]); first | done | rfl | (simp only [List.length_drop, List.length_take]; rfl)) ?_; (with_reducible refine (pipe_loop.calls a0_0 a0_1 a0_2 a0_3 a0_4 a0_5 a0_6 a0_7 a0_8 a0_9 a0_10 a0_11 t104 _ A2.out).mono ?_); rintro e w5 ⟨rfl, hb⟩; refine ⟨_, rfl, ?_⟩; have n0_ := qab.mk (qah (g := gb103) (o := .cells #[.int .i64 a0_0, .int .i64 a0_1, .int .i64 a0_2, .int .i64 a0_3, .int .i64 a0_4, .int .i64 a0_5, .int .i64 a0_6, .int .i64 a0_7, .int .i64 a0_8, .int .i64 a0_9, .int .i64 a0_10, .int .i64 a0_11] 39 (0, 0)) (by (with_reducible repeat (first | refine qal ?_ _ | refine qao ?_ | refine qaj ?_ _)); exact BK103.out) hb); have n1_ := qab.mk (qag (by repeat (first | (with_reducible first | exact HB.out | apply qae | apply qad | apply qaf | refine qai ?_ GE103.out) | exact HB.out)) hb); clear BK103; clear HB; have BK103 := n0_; have HB := n1_; clear n0_ n1_; (try clear hb); (try clear hb2); (try clear hk); (try clear hi)))
 go_ret
 exact ⟨by first | rfl | (simp [qas, qat] <;> rfl) | (simp [*, qas, qat] <;> rfl), by repeat (first | (with_reducible first | exact HB.out | apply qae | apply qad | apply qaf | refine qai ?_ GE103.out) | exact HB.out)⟩
def pipe_valid_3.f (a0_0 : Int) (a0_1 : Int) : Option (Bool) := (pipe_span.f a0_0 a0_1 0 1000).bind fun t106 => (some (!t106))
set_option maxHeartbeats 8000000 in
set_option maxRecDepth 100000 in
theorem pipe_valid_3.calls (a0_0 : Int) (a0_1 : Int) (r : Bool) (w : World) (h : pipe_valid_3.f a0_0 a0_1 = some r) :
  Calls Try.prog 87 #[.agg #[.int .i64 a0_0, .int .i64 a0_1]] w fun e w' => e = .returned (.bool r) ∧ Below w.heap.size w w' := by
 have hu37 := Try.underlying37
 have HB := qab.mk (Below.refl w.heap.size w)
 have H : ((pipe_span.f a0_0 a0_1 0 1000).bind fun t106 => (some (!t106))) = some r := h
 clear h
 replace H := Option.bind_eq_some_iff.mp H
 obtain ⟨t106, A20, H⟩ := H
 replace H : (some (!t106)) = some r := H
 have A2 := qab.mk A20
 clear A20
 obtain rfl := Option.some.inj H
 go_enter Try.func87, Try.ntmps87
 go_wp2_with (first | ((with_reducible refine qar (N := 1) rfl ?_); refine qap ?hg (N := 1) ?hd (cs := #[.int .i64 a0_0, .int .i64 a0_1]) (t := 37) ?hr ?_; (case hd => rfl); (case hg => rfl); (case hr => first | (go_simp; done) | (go_simp; rfl)); intro gb105 hg w3 hbox hb; have n0_ := qab.mk (qag (by repeat (first | (with_reducible first | exact HB.out | apply qae | apply qad | apply qaf) | exact HB.out)) hb); have n1_ := qab.mk (hbox); have n2_ := qab.mk ((by rw [hg]; exact (qan (by repeat (first | (with_reducible first | exact HB.out | apply qae | apply qad | apply qaf) | exact HB.out))) : w.heap.size ≤ gb105)); have n3_ := qab.mk ((by rw [hg]; exact (qan (by repeat (first | (with_reducible first | exact HB.out | apply qae | apply qad | apply qaf) | exact HB.out))) : w.heap.size ≤ gb105)); clear HB; have HB := n0_; have BK105 := n1_; have GW105 := n2_; have GE105 := n3_; clear n0_ n1_ n2_ n3_; clear hb hbox hg; have hcz4_0 : w3.cell? ⟨gb105, 0, none⟩ = some (.int .i64 a0_0) := (qaa BK105.out 0).trans rfl; have hcz4_1 : w3.cell? ⟨gb105, 1, none⟩ = some (.int .i64 a0_1) := (qaa BK105.out 1).trans rfl; have hfz4_0 := qac BK105.out 0; have hfz4_1 := qac BK105.out 1) | ((with_reducible refine gate_callee (f := 88) rfl ?_); refine goesL_ (some 4) rfl rfl Try.func88 (by kernel_rfl) rfl #[.agg #[.int .i64 a0_0, .int .i64 a0_1], .int .i64 0, .int .i64 1000] rfl (by (try simp only [List.map_toArray, List.map_cons, List.map_nil]); first | done | rfl | (simp only [List.length_drop, List.length_take]; rfl)) ?_; (with_reducible refine (pipe_span.calls a0_0 a0_1 0 1000 t106 _ A2.out).mono ?_); rintro e w5 ⟨rfl, hb⟩; refine ⟨_, rfl, ?_⟩; have n0_ := qab.mk (qah (g := gb105) (o := .cells #[.int .i64 a0_0, .int .i64 a0_1] 37 (0, 0)) (by (with_reducible repeat (first | refine qal ?_ _ | refine qao ?_ | refine qaj ?_ _)); exact BK105.out) hb); have n1_ := qab.mk (qag (by repeat (first | (with_reducible first | exact HB.out | apply qae | apply qad | apply qaf | refine qai ?_ GE105.out) | exact HB.out)) hb); clear BK105; clear HB; have BK105 := n0_; have HB := n1_; clear n0_ n1_; (try clear hb); (try clear hb2); (try clear hk); (try clear hi)))
 go_ret
 exact ⟨by first | rfl | (simp [qas, qat] <;> rfl) | (simp [*, qas, qat] <;> rfl), by repeat (first | (with_reducible first | exact HB.out | apply qae | apply qad | apply qaf | refine qai ?_ GE105.out) | exact HB.out)⟩
def pipe_fault.f (l0_0 : List (S39)) (l0_1 : List (S37)) (l0_2 : List (List Int)) (a1 : Int) : Option (Bool) := (pipe_in.f a1 0 (wrap64 ((shl .i64 1 (l0_0.length : Int)) - 1))).bind fun t108 => (some t108)
set_option maxHeartbeats 8000000 in
set_option maxRecDepth 100000 in
theorem pipe_fault.calls (A0_0 : Option Addr) (c0_0 : Nat) (l0_0 : List (S39)) (A0_1 : Option Addr) (c0_1 : Nat) (l0_1 : List (S37)) (A0_2 : Option Addr) (c0_2 : Nat) (l0_2 : List (List Int)) (a1 : Int) (r : Bool) (w : World) (hr0_0 : Kd.C k39 w A0_0 l0_0.length l0_0) (hc0_0 : l0_0.length ≤ c0_0) (hr0_1 : Kd.C k37 w A0_1 l0_1.length l0_1) (hc0_1 : l0_1.length ≤ c0_1) (hr0_2 : Kd.C (Kd.slice 3 (Kd.int .i64)) w A0_2 l0_2.length l0_2) (hc0_2 : l0_2.length ≤ c0_2) (h : pipe_fault.f l0_0 l0_1 l0_2 a1 = some r) :
  Calls Try.prog 63 #[.agg #[.slice A0_0 l0_0.length c0_0, .slice A0_1 l0_1.length c0_1, .slice A0_2 l0_2.length c0_2], .int .i64 a1] w fun e w' => e = .returned (.bool r) ∧ Below w.heap.size w w' := by
 have hu26 := Try.underlying26
 have HR0_0 := qab.mk hr0_0
 have HC0_0 := qab.mk hc0_0
 clear hr0_0 hc0_0
 have HR0_1 := qab.mk hr0_1
 have HC0_1 := qab.mk hc0_1
 clear hr0_1 hc0_1
 have HR0_2 := qab.mk hr0_2
 have HC0_2 := qab.mk hc0_2
 clear hr0_2 hc0_2
 have HB := qab.mk (Below.refl w.heap.size w)
 have H : ((pipe_in.f a1 0 (wrap64 ((shl .i64 1 (l0_0.length : Int)) - 1))).bind fun t108 => (some t108)) = some r := h
 clear h
 obtain ⟨ji3, hji3⟩ : ∃ j_ : Int, (shl .i64 1 (l0_0.length : Int)) = j_ := ⟨_, rfl⟩
 replace H : ((pipe_in.f a1 0 (wrap64 ((ji3) - 1))).bind fun t108 => (some t108)) = some r := by first | (rw [hji3] at H; exact H) | (simp only [hji3] at H ⊢; exact H)
 have hji3_ : (IntKind.i64.wrap (1 * 2 ^ min (l0_0.length : Int).toNat 64)) = ji3 := hji3
 have hji3z : (l0_0.length : Int) ≤ 64 → (IntKind.i64.wrap (1 * 2 ^ (l0_0.length : Int).toNat)) = ji3 := shl_small hji3
 have hji3p : (IntKind.i64.wrap (1 * 2 ^ min l0_0.length 64)) = ji3 := hji3_
 have hji3q : (l0_0.length : Int) ≤ 64 → (IntKind.i64.wrap (1 * 2 ^ l0_0.length)) = ji3 := hji3z
 have hji3r : (IntKind.i64.wrap (2 ^ min l0_0.length 64)) = ji3 := by have h_ := hji3p; rw [Int.one_mul] at h_; exact h_
 have hji3s : (l0_0.length : Int) ≤ 64 → (IntKind.i64.wrap (2 ^ l0_0.length)) = ji3 := fun hle_ => by have h_ := hji3q hle_; rw [Int.one_mul] at h_; exact h_
 have hji3u : (IntKind.i64.wrap (2 ^ min (l0_0.length : Int).toNat 64)) = ji3 := by have h_ := hji3_; rw [Int.one_mul] at h_; exact h_
 have hji3v : (l0_0.length : Int) ≤ 64 → (IntKind.i64.wrap (2 ^ (l0_0.length : Int).toNat)) = ji3 := fun hle_ => by have h_ := hji3z hle_; rw [Int.one_mul] at h_; exact h_
 have hji3y : (wrap64 (1 * 2 ^ min (l0_0.length : Int).toNat 64)) = ji3 := (i64_w _).symm.trans hji3_
 have hji3x : (l0_0.length : Int) ≤ 64 → (wrap64 (1 * 2 ^ (l0_0.length : Int).toNat)) = ji3 := fun h_ => (i64_w _).symm.trans (hji3z h_)
 replace H := Option.bind_eq_some_iff.mp H
 obtain ⟨t108, A40, H⟩ := H
 replace H : (some t108) = some r := H
 have A4 := qab.mk A40
 clear A40
 obtain rfl := Option.some.inj H
 go_enter Try.func63, Try.ntmps63
 go_wp2_with (first | ((with_reducible refine qar (N := 2) rfl ?_); refine qap ?hg (N := 2) ?hd (cs := #[.slice A0_0 l0_0.length c0_0, .slice A0_1 l0_1.length c0_1, .slice A0_2 l0_2.length c0_2]) (t := 26) ?hr ?_; (case hd => rfl); (case hg => rfl); (case hr => first | (go_simp; done) | (go_simp; rfl)); intro gb107 hg w5 hbox hb; have n0_ := qab.mk (qag (by repeat (first | (with_reducible first | exact HB.out | apply qae | apply qad | apply qaf) | exact HB.out)) hb); have n1_ := qab.mk (hbox); have n2_ := qab.mk ((by rw [hg]; exact (qan (by repeat (first | (with_reducible first | exact HB.out | apply qae | apply qad | apply qaf) | exact HB.out))) : w.heap.size ≤ gb107)); have n3_ := qab.mk ((by rw [hg]; exact (qan (by repeat (first | (with_reducible first | exact HB.out | apply qae | apply qad | apply qaf) | exact HB.out))) : w.heap.size ≤ gb107)); clear HB; have HB := n0_; have BK107 := n1_; have GW107 := n2_; have GE107 := n3_; clear n0_ n1_ n2_ n3_; clear hb hbox hg; have hcz6_0 : w5.cell? ⟨gb107, 0, none⟩ = some (.slice A0_0 l0_0.length c0_0) := (qaa BK107.out 0).trans rfl; have hcz6_1 : w5.cell? ⟨gb107, 1, none⟩ = some (.slice A0_1 l0_1.length c0_1) := (qaa BK107.out 1).trans rfl; have hcz6_2 : w5.cell? ⟨gb107, 2, none⟩ = some (.slice A0_2 l0_2.length c0_2) := (qaa BK107.out 2).trans rfl; have hfz6_0 := qac BK107.out 0; have hfz6_1 := qac BK107.out 1; have hfz6_2 := qac BK107.out 2) | ((with_reducible refine gate_callee (f := 55) rfl ?_); refine goesL_ (some 11) rfl rfl Try.func55 (by kernel_rfl) rfl #[.int .i64 a1, .int .i64 0, .int .i64 (wrap64 ((ji3) - 1))] rfl (by (try simp only [List.map_toArray, List.map_cons, List.map_nil]); first | done | (simp only [hji3]; rfl) | rfl | (simp only [List.length_drop, List.length_take]; rfl)) ?_; (with_reducible refine (pipe_in.calls a1 0 (wrap64 ((ji3) - 1)) t108 _ A4.out).mono ?_); rintro e w' ⟨rfl, ⟨nd, rfl⟩⟩; refine ⟨_, rfl, ?_⟩))
 go_ret
 exact ⟨by first | rfl | (simp [qas, qat] <;> rfl) | (simp only [← hji3]; first | rfl | (simp [qas, qat] <;> rfl)) | (simp [*, qas, qat] <;> rfl), by repeat (first | (with_reducible first | exact HB.out | apply qae | apply qad | apply qaf | refine qai ?_ GE107.out) | exact HB.out)⟩
def pipe_bare_leak.f (a0_0 : Int) (a0_1 : Int) (a0_2 : Int) (a0_3 : Int) (a0_4 : Int) (a0_5 : Int) (a0_6 : Int) (a0_7 : Int) (a0_8 : Int) (a0_9 : Int) (a0_10 : Int) (a0_11 : Int) : Option (Int × Int) := some (a0_2, a0_3)
set_option maxHeartbeats 8000000 in
set_option maxRecDepth 100000 in
theorem pipe_bare_leak.calls (a0_0 : Int) (a0_1 : Int) (a0_2 : Int) (a0_3 : Int) (a0_4 : Int) (a0_5 : Int) (a0_6 : Int) (a0_7 : Int) (a0_8 : Int) (a0_9 : Int) (a0_10 : Int) (a0_11 : Int) (r1 : Int) (r2 : Int) (w : World) (h : pipe_bare_leak.f a0_0 a0_1 a0_2 a0_3 a0_4 a0_5 a0_6 a0_7 a0_8 a0_9 a0_10 a0_11 = some (r1, r2)) :
  Calls Try.prog 122 #[.agg #[.int .i64 a0_0, .int .i64 a0_1, .int .i64 a0_2, .int .i64 a0_3, .int .i64 a0_4, .int .i64 a0_5, .int .i64 a0_6, .int .i64 a0_7, .int .i64 a0_8, .int .i64 a0_9, .int .i64 a0_10, .int .i64 a0_11]] w fun e w' => e = .returned (.agg #[.int .i64 r1, .int .i64 r2]) ∧ Below w.heap.size w w' := by
 have hu146 := Try.underlying146
 have hu37 := Try.underlying37
 have HB := qab.mk (Below.refl w.heap.size w)
 have H : (some (a0_2, a0_3)) = some (r1, r2) := h
 clear h
 simp only [Option.some.injEq, Prod.mk.injEq] at H
 obtain ⟨rfl, rfl⟩ := H
 go_enter Try.func122, Try.ntmps122
 go_wp2_with (first | ((with_reducible refine qar (N := 1) rfl ?_); refine qap ?hg (N := 1) ?hd (cs := #[.int .i64 a0_0, .int .i64 a0_1, .int .i64 a0_2, .int .i64 a0_3, .int .i64 a0_4, .int .i64 a0_5, .int .i64 a0_6, .int .i64 a0_7, .int .i64 a0_8, .int .i64 a0_9, .int .i64 a0_10, .int .i64 a0_11]) (t := 146) ?hr ?_; (case hd => rfl); (case hg => rfl); (case hr => first | (go_simp; done) | (go_simp; rfl)); intro gb109 hg w2 hbox hb; have n0_ := qab.mk (qag (by repeat (first | (with_reducible first | exact HB.out | apply qae | apply qad | apply qaf) | exact HB.out)) hb); have n1_ := qab.mk (hbox); have n2_ := qab.mk ((by rw [hg]; exact (qan (by repeat (first | (with_reducible first | exact HB.out | apply qae | apply qad | apply qaf) | exact HB.out))) : w.heap.size ≤ gb109)); have n3_ := qab.mk ((by rw [hg]; exact (qan (by repeat (first | (with_reducible first | exact HB.out | apply qae | apply qad | apply qaf) | exact HB.out))) : w.heap.size ≤ gb109)); clear HB; have HB := n0_; have BK109 := n1_; have GW109 := n2_; have GE109 := n3_; clear n0_ n1_ n2_ n3_; clear hb hbox hg) | ((with_reducible refine qar (N := 2) rfl ?_); refine qap ?hg (N := 2) ?hd (cs := #[.int .i64 0, .int .i64 0]) (t := 37) ?hr ?_; (case hd => rfl); (case hg => rfl); (case hr => first | (go_simp; done) | (go_simp; rfl)); intro gb110 hg w3 hbox hb; have n0_ := qab.mk (qah (g := gb109) (o := .cells #[.int .i64 a0_0, .int .i64 a0_1, .int .i64 a0_2, .int .i64 a0_3, .int .i64 a0_4, .int .i64 a0_5, .int .i64 a0_6, .int .i64 a0_7, .int .i64 a0_8, .int .i64 a0_9, .int .i64 a0_10, .int .i64 a0_11] 146 (0, 0)) (by (with_reducible repeat (first | refine qal ?_ _ | refine qao ?_ | refine qaj ?_ _)); exact BK109.out) hb); have n1_ := qab.mk (qag (by repeat (first | (with_reducible first | exact HB.out | apply qae | apply qad | apply qaf | refine qai ?_ GE109.out) | exact HB.out)) hb); have n2_ := qab.mk (hbox); have n3_ := qab.mk ((by rw [hg]; exact (qan (by repeat (first | (with_reducible first | exact HB.out | apply qae | apply qad | apply qaf | refine qai ?_ GE109.out) | exact HB.out))) : w.heap.size ≤ gb110)); have n4_ := qab.mk ((by rw [hg]; exact (qan (by repeat (first | (with_reducible first | exact HB.out | apply qae | apply qad | apply qaf | refine qai ?_ GE109.out) | exact HB.out))) : w.heap.size ≤ gb110)); have n5_ := qab.mk ((by rw [hg]; exact Nat.ne_of_lt (blk_lt (g := gb109) (o := .cells #[.int .i64 a0_0, .int .i64 a0_1, .int .i64 a0_2, .int .i64 a0_3, .int .i64 a0_4, .int .i64 a0_5, .int .i64 a0_6, .int .i64 a0_7, .int .i64 a0_8, .int .i64 a0_9, .int .i64 a0_10, .int .i64 a0_11] 146 (0, 0)) (by (with_reducible repeat (first | refine qal ?_ _ | refine qao ?_ | refine qaj ?_ _)); exact BK109.out)) : gb109 ≠ gb110)); have n6_ := qab.mk ((by rw [hg]; exact Nat.ne_of_gt (blk_lt (g := gb109) (o := .cells #[.int .i64 a0_0, .int .i64 a0_1, .int .i64 a0_2, .int .i64 a0_3, .int .i64 a0_4, .int .i64 a0_5, .int .i64 a0_6, .int .i64 a0_7, .int .i64 a0_8, .int .i64 a0_9, .int .i64 a0_10, .int .i64 a0_11] 146 (0, 0)) (by (with_reducible repeat (first | refine qal ?_ _ | refine qao ?_ | refine qaj ?_ _)); exact BK109.out)) : gb110 ≠ gb109)); clear BK109; clear HB; have BK109 := n0_; have HB := n1_; have BK110 := n2_; have GW110 := n3_; have GE110 := n4_; have NB109_110 := n5_; have NB110_109 := n6_; clear n0_ n1_ n2_ n3_ n4_ n5_ n6_; clear hb hbox hg; have hnb4 := NB109_110.out; have hnc4 := NB110_109.out; have hcz5_0 : w3.cell? ⟨gb109, 0, none⟩ = some (.int .i64 a0_0) := (qaa BK109.out 0).trans rfl; have hcz5_1 : w3.cell? ⟨gb109, 1, none⟩ = some (.int .i64 a0_1) := (qaa BK109.out 1).trans rfl; have hcz5_2 : w3.cell? ⟨gb109, 2, none⟩ = some (.int .i64 a0_2) := (qaa BK109.out 2).trans rfl; have hcz5_3 : w3.cell? ⟨gb109, 3, none⟩ = some (.int .i64 a0_3) := (qaa BK109.out 3).trans rfl; have hcz5_4 : w3.cell? ⟨gb109, 4, none⟩ = some (.int .i64 a0_4) := (qaa BK109.out 4).trans rfl; have hcz5_5 : w3.cell? ⟨gb109, 5, none⟩ = some (.int .i64 a0_5) := (qaa BK109.out 5).trans rfl; have hcz5_6 : w3.cell? ⟨gb109, 6, none⟩ = some (.int .i64 a0_6) := (qaa BK109.out 6).trans rfl; have hcz5_7 : w3.cell? ⟨gb109, 7, none⟩ = some (.int .i64 a0_7) := (qaa BK109.out 7).trans rfl; have hcz5_8 : w3.cell? ⟨gb109, 8, none⟩ = some (.int .i64 a0_8) := (qaa BK109.out 8).trans rfl; have hcz5_9 : w3.cell? ⟨gb109, 9, none⟩ = some (.int .i64 a0_9) := (qaa BK109.out 9).trans rfl; have hcz5_10 : w3.cell? ⟨gb109, 10, none⟩ = some (.int .i64 a0_10) := (qaa BK109.out 10).trans rfl; have hcz5_11 : w3.cell? ⟨gb109, 11, none⟩ = some (.int .i64 a0_11) := (qaa BK109.out 11).trans rfl; have hfz5_0 := qac BK109.out 0; have hfz5_1 := qac BK109.out 1; have hfz5_2 := qac BK109.out 2; have hfz5_3 := qac BK109.out 3; have hfz5_4 := qac BK109.out 4; have hfz5_5 := qac BK109.out 5; have hfz5_6 := qac BK109.out 6; have hfz5_7 := qac BK109.out 7; have hfz5_8 := qac BK109.out 8; have hfz5_9 := qac BK109.out 9; have hfz5_10 := qac BK109.out 10; have hfz5_11 := qac BK109.out 11; have hcz6_0 : w3.cell? ⟨gb110, 0, none⟩ = some (.int .i64 0) := (qaa BK110.out 0).trans rfl; have hcz6_1 : w3.cell? ⟨gb110, 1, none⟩ = some (.int .i64 0) := (qaa BK110.out 1).trans rfl; have hfz6_0 := qac BK110.out 0; have hfz6_1 := qac BK110.out 1))
 refine bodyPost_ret (results_cell_row rfl _ _ gb110 37 #[.int .i64 a0_2, .int .i64 a0_3] (0, 0) _ rfl (by (with_reducible repeat (first | refine qal ?_ _ | refine qao ?_ | refine qaj ?_ _)); refine blk_put (cs := #[.int .i64 a0_2, .int .i64 0]) ?_ 1 _ rfl; (with_reducible repeat (first | refine qal ?_ _ | refine qao ?_ | refine qaj ?_ _)); refine blk_put (cs := #[.int .i64 0, .int .i64 0]) ?_ 0 _ rfl; (with_reducible repeat (first | refine qal ?_ _ | refine qao ?_ | refine qaj ?_ _)); exact BK110.out) Try.underlying37 rfl (by kernel_rfl)) rfl ?_
 exact ⟨by first | rfl | (simp [qas, qat] <;> rfl) | (simp [*, qas, qat] <;> rfl), by repeat (first | (with_reducible first | exact HB.out | apply qae | apply qad | apply qaf | refine qai ?_ GE109.out | refine qai ?_ GE110.out) | exact HB.out)⟩
def pipe_wrapped_leak.f (a0_0 : Int) (a0_1 : Int) (a0_2 : Int) (a0_3 : Int) (a0_4 : Int) (a0_5 : Int) (a0_6 : Int) (a0_7 : Int) (a0_8 : Int) (a0_9 : Int) (a0_10 : Int) (a0_11 : Int) : Option (Int × Int) := some (a0_4, a0_5)
set_option maxHeartbeats 8000000 in
set_option maxRecDepth 100000 in
theorem pipe_wrapped_leak.calls (a0_0 : Int) (a0_1 : Int) (a0_2 : Int) (a0_3 : Int) (a0_4 : Int) (a0_5 : Int) (a0_6 : Int) (a0_7 : Int) (a0_8 : Int) (a0_9 : Int) (a0_10 : Int) (a0_11 : Int) (r1 : Int) (r2 : Int) (w : World) (h : pipe_wrapped_leak.f a0_0 a0_1 a0_2 a0_3 a0_4 a0_5 a0_6 a0_7 a0_8 a0_9 a0_10 a0_11 = some (r1, r2)) :
  Calls Try.prog 121 #[.agg #[.int .i64 a0_0, .int .i64 a0_1, .int .i64 a0_2, .int .i64 a0_3, .int .i64 a0_4, .int .i64 a0_5, .int .i64 a0_6, .int .i64 a0_7, .int .i64 a0_8, .int .i64 a0_9, .int .i64 a0_10, .int .i64 a0_11]] w fun e w' => e = .returned (.agg #[.int .i64 r1, .int .i64 r2]) ∧ Below w.heap.size w w' := by
 have hu145 := Try.underlying145
 have hu37 := Try.underlying37
 have HB := qab.mk (Below.refl w.heap.size w)
 have H : (some (a0_4, a0_5)) = some (r1, r2) := h
 clear h
 simp only [Option.some.injEq, Prod.mk.injEq] at H
 obtain ⟨rfl, rfl⟩ := H
 go_enter Try.func121, Try.ntmps121
 go_wp2_with (first | ((with_reducible refine qar (N := 1) rfl ?_); refine qap ?hg (N := 1) ?hd (cs := #[.int .i64 a0_0, .int .i64 a0_1, .int .i64 a0_2, .int .i64 a0_3, .int .i64 a0_4, .int .i64 a0_5, .int .i64 a0_6, .int .i64 a0_7, .int .i64 a0_8, .int .i64 a0_9, .int .i64 a0_10, .int .i64 a0_11]) (t := 145) ?hr ?_; (case hd => rfl); (case hg => rfl); (case hr => first | (go_simp; done) | (go_simp; rfl)); intro gb111 hg w2 hbox hb; have n0_ := qab.mk (qag (by repeat (first | (with_reducible first | exact HB.out | apply qae | apply qad | apply qaf) | exact HB.out)) hb); have n1_ := qab.mk (hbox); have n2_ := qab.mk ((by rw [hg]; exact (qan (by repeat (first | (with_reducible first | exact HB.out | apply qae | apply qad | apply qaf) | exact HB.out))) : w.heap.size ≤ gb111)); have n3_ := qab.mk ((by rw [hg]; exact (qan (by repeat (first | (with_reducible first | exact HB.out | apply qae | apply qad | apply qaf) | exact HB.out))) : w.heap.size ≤ gb111)); clear HB; have HB := n0_; have BK111 := n1_; have GW111 := n2_; have GE111 := n3_; clear n0_ n1_ n2_ n3_; clear hb hbox hg) | ((with_reducible refine qar (N := 2) rfl ?_); refine qap ?hg (N := 2) ?hd (cs := #[.int .i64 0, .int .i64 0]) (t := 37) ?hr ?_; (case hd => rfl); (case hg => rfl); (case hr => first | (go_simp; done) | (go_simp; rfl)); intro gb112 hg w3 hbox hb; have n0_ := qab.mk (qah (g := gb111) (o := .cells #[.int .i64 a0_0, .int .i64 a0_1, .int .i64 a0_2, .int .i64 a0_3, .int .i64 a0_4, .int .i64 a0_5, .int .i64 a0_6, .int .i64 a0_7, .int .i64 a0_8, .int .i64 a0_9, .int .i64 a0_10, .int .i64 a0_11] 145 (0, 0)) (by (with_reducible repeat (first | refine qal ?_ _ | refine qao ?_ | refine qaj ?_ _)); exact BK111.out) hb); have n1_ := qab.mk (qag (by repeat (first | (with_reducible first | exact HB.out | apply qae | apply qad | apply qaf | refine qai ?_ GE111.out) | exact HB.out)) hb); have n2_ := qab.mk (hbox); have n3_ := qab.mk ((by rw [hg]; exact (qan (by repeat (first | (with_reducible first | exact HB.out | apply qae | apply qad | apply qaf | refine qai ?_ GE111.out) | exact HB.out))) : w.heap.size ≤ gb112)); have n4_ := qab.mk ((by rw [hg]; exact (qan (by repeat (first | (with_reducible first | exact HB.out | apply qae | apply qad | apply qaf | refine qai ?_ GE111.out) | exact HB.out))) : w.heap.size ≤ gb112)); have n5_ := qab.mk ((by rw [hg]; exact Nat.ne_of_lt (blk_lt (g := gb111) (o := .cells #[.int .i64 a0_0, .int .i64 a0_1, .int .i64 a0_2, .int .i64 a0_3, .int .i64 a0_4, .int .i64 a0_5, .int .i64 a0_6, .int .i64 a0_7, .int .i64 a0_8, .int .i64 a0_9, .int .i64 a0_10, .int .i64 a0_11] 145 (0, 0)) (by (with_reducible repeat (first | refine qal ?_ _ | refine qao ?_ | refine qaj ?_ _)); exact BK111.out)) : gb111 ≠ gb112)); have n6_ := qab.mk ((by rw [hg]; exact Nat.ne_of_gt (blk_lt (g := gb111) (o := .cells #[.int .i64 a0_0, .int .i64 a0_1, .int .i64 a0_2, .int .i64 a0_3, .int .i64 a0_4, .int .i64 a0_5, .int .i64 a0_6, .int .i64 a0_7, .int .i64 a0_8, .int .i64 a0_9, .int .i64 a0_10, .int .i64 a0_11] 145 (0, 0)) (by (with_reducible repeat (first | refine qal ?_ _ | refine qao ?_ | refine qaj ?_ _)); exact BK111.out)) : gb112 ≠ gb111)); clear BK111; clear HB; have BK111 := n0_; have HB := n1_; have BK112 := n2_; have GW112 := n3_; have GE112 := n4_; have NB111_112 := n5_; have NB112_111 := n6_; clear n0_ n1_ n2_ n3_ n4_ n5_ n6_; clear hb hbox hg; have hnb4 := NB111_112.out; have hnc4 := NB112_111.out; have hcz5_0 : w3.cell? ⟨gb111, 0, none⟩ = some (.int .i64 a0_0) := (qaa BK111.out 0).trans rfl; have hcz5_1 : w3.cell? ⟨gb111, 1, none⟩ = some (.int .i64 a0_1) := (qaa BK111.out 1).trans rfl; have hcz5_2 : w3.cell? ⟨gb111, 2, none⟩ = some (.int .i64 a0_2) := (qaa BK111.out 2).trans rfl; have hcz5_3 : w3.cell? ⟨gb111, 3, none⟩ = some (.int .i64 a0_3) := (qaa BK111.out 3).trans rfl; have hcz5_4 : w3.cell? ⟨gb111, 4, none⟩ = some (.int .i64 a0_4) := (qaa BK111.out 4).trans rfl; have hcz5_5 : w3.cell? ⟨gb111, 5, none⟩ = some (.int .i64 a0_5) := (qaa BK111.out 5).trans rfl; have hcz5_6 : w3.cell? ⟨gb111, 6, none⟩ = some (.int .i64 a0_6) := (qaa BK111.out 6).trans rfl; have hcz5_7 : w3.cell? ⟨gb111, 7, none⟩ = some (.int .i64 a0_7) := (qaa BK111.out 7).trans rfl; have hcz5_8 : w3.cell? ⟨gb111, 8, none⟩ = some (.int .i64 a0_8) := (qaa BK111.out 8).trans rfl; have hcz5_9 : w3.cell? ⟨gb111, 9, none⟩ = some (.int .i64 a0_9) := (qaa BK111.out 9).trans rfl; have hcz5_10 : w3.cell? ⟨gb111, 10, none⟩ = some (.int .i64 a0_10) := (qaa BK111.out 10).trans rfl; have hcz5_11 : w3.cell? ⟨gb111, 11, none⟩ = some (.int .i64 a0_11) := (qaa BK111.out 11).trans rfl; have hfz5_0 := qac BK111.out 0; have hfz5_1 := qac BK111.out 1; have hfz5_2 := qac BK111.out 2; have hfz5_3 := qac BK111.out 3; have hfz5_4 := qac BK111.out 4; have hfz5_5 := qac BK111.out 5; have hfz5_6 := qac BK111.out 6; have hfz5_7 := qac BK111.out 7; have hfz5_8 := qac BK111.out 8; have hfz5_9 := qac BK111.out 9; have hfz5_10 := qac BK111.out 10; have hfz5_11 := qac BK111.out 11; have hcz6_0 : w3.cell? ⟨gb112, 0, none⟩ = some (.int .i64 0) := (qaa BK112.out 0).trans rfl; have hcz6_1 : w3.cell? ⟨gb112, 1, none⟩ = some (.int .i64 0) := (qaa BK112.out 1).trans rfl; have hfz6_0 := qac BK112.out 0; have hfz6_1 := qac BK112.out 1))
 refine bodyPost_ret (results_cell_row rfl _ _ gb112 37 #[.int .i64 a0_4, .int .i64 a0_5] (0, 0) _ rfl (by (with_reducible repeat (first | refine qal ?_ _ | refine qao ?_ | refine qaj ?_ _)); refine blk_put (cs := #[.int .i64 a0_4, .int .i64 0]) ?_ 1 _ rfl; (with_reducible repeat (first | refine qal ?_ _ | refine qao ?_ | refine qaj ?_ _)); refine blk_put (cs := #[.int .i64 0, .int .i64 0]) ?_ 0 _ rfl; (with_reducible repeat (first | refine qal ?_ _ | refine qao ?_ | refine qaj ?_ _)); exact BK112.out) Try.underlying37 rfl (by kernel_rfl)) rfl ?_
 exact ⟨by first | rfl | (simp [qas, qat] <;> rfl) | (simp [*, qas, qat] <;> rfl), by repeat (first | (with_reducible first | exact HB.out | apply qae | apply qad | apply qaf | refine qai ?_ GE111.out | refine qai ?_ GE112.out) | exact HB.out)⟩
def pipe_loss.f (a0 : Int) (a1 : Int) (a2 : Int) (a3 : Int) : Option (Int) := some (mn (wrap64 (Int.tdiv (wrap64 (a0 * (wrap64 (a2 + a1)))) 1000)) (wrap64 (a2 + a3)))
set_option maxHeartbeats 8000000 in
set_option maxRecDepth 100000 in
theorem pipe_loss.calls (a0 : Int) (a1 : Int) (a2 : Int) (a3 : Int) (r : Int) (w : World) (h : pipe_loss.f a0 a1 a2 a3 = some r) :
  Calls Try.prog 56 #[.int .i64 a0, .int .i64 a1, .int .i64 a2, .int .i64 a3] w fun e w' => e = .returned (.int .i64 r) ∧ Below w.heap.size w w' := by
 have HB := qab.mk (Below.refl w.heap.size w)
 have H : (some (mn (wrap64 (Int.tdiv (wrap64 (a0 * (wrap64 (a2 + a1)))) 1000)) (wrap64 (a2 + a3)))) = some r := h
 clear h
 obtain ⟨ji5, hji5⟩ : ∃ j_ : Int, (mn (wrap64 (Int.tdiv (wrap64 (a0 * (wrap64 (a2 + a1)))) 1000)) (wrap64 (a2 + a3))) = j_ := ⟨_, rfl⟩
 replace H : (some ji5) = some r := by first | (rw [hji5] at H; exact H) | (simp only [hji5] at H ⊢; exact H)
 have hji5_ : (if (wrap64 (a2 + a3)) < (wrap64 (Int.tdiv (wrap64 (a0 * (wrap64 (a2 + a1)))) 1000)) then (wrap64 (a2 + a3)) else (wrap64 (Int.tdiv (wrap64 (a0 * (wrap64 (a2 + a1)))) 1000))) = ji5 := hji5
 obtain rfl := Option.some.inj H
 go_enter Try.func56, Try.ntmps56
 go_wp2
 go_ret
 exact ⟨by first | rfl | (simp [qas, qat] <;> rfl) | (simp only [← hji5]; first | rfl | (simp [qas, qat] <;> rfl)) | (simp [*, qas, qat] <;> rfl), by repeat (first | (with_reducible first | exact HB.out | apply qae | apply qad | apply qaf) | exact HB.out)⟩
mutual
def taliklaw04_short.l0 : Nat → Int → List (S39) → List (S37) → List (List Int) → Option (Bool)
 | 0, _, _, _, _ => none
 | k + 1, x3, x122000, x122001, x122002 => if x3 < (x122002.length : Int) then (taliklaw04_short.j1 k x3 (decide (x3 < 10)) x122000 x122001 x122002) else (taliklaw04_short.j1 k x3 false x122000 x122001 x122002)
def taliklaw04_short.j1 : Nat → Int → Bool → List (S39) → List (S37) → List (List Int) → Option (Bool)
 | 0, _, _, _, _, _ => none
 | k + 1, x3, x12, x122000, x122001, x122002 => if x12 = true then (if 0 ≤ x3 then (if x3 < (x122002.length : Int) then (if ((rd_L1 x122002 x3).length : Int) > 10 then (some false) else (taliklaw04_short.l0 k (wrap64 (x3 + 1)) x122000 x122001 x122002)) else (none)) else (none)) else (if (x122000.length : Int) ≤ 8 then (if (x122001.length : Int) ≤ 77 then (some (decide ((x122002.length : Int) ≤ 10))) else (some false)) else (some false))
end
def taliklaw04_short.f (k : Nat) (l0_0 : List (S39)) (l0_1 : List (S37)) (l0_2 : List (List Int)) : Option (Bool) := taliklaw04_short.l0 k 0 l0_0 l0_1 l0_2
set_option maxHeartbeats 8000000 in
set_option maxRecDepth 100000 in
theorem taliklaw04_short.calls (k : Nat) (A0_0 : Option Addr) (c0_0 : Nat) (l0_0 : List (S39)) (A0_1 : Option Addr) (c0_1 : Nat) (l0_1 : List (S37)) (A0_2 : Option Addr) (c0_2 : Nat) (l0_2 : List (List Int)) (r : Bool) (w : World) (hr0_0 : Kd.C k39 w A0_0 l0_0.length l0_0) (hc0_0 : l0_0.length ≤ c0_0) (hr0_1 : Kd.C k37 w A0_1 l0_1.length l0_1) (hc0_1 : l0_1.length ≤ c0_1) (hr0_2 : Kd.C (Kd.slice 3 (Kd.int .i64)) w A0_2 l0_2.length l0_2) (hc0_2 : l0_2.length ≤ c0_2) (h : taliklaw04_short.f k l0_0 l0_1 l0_2 = some r) :
  Calls Try.prog 16 #[.agg #[.slice A0_0 l0_0.length c0_0, .slice A0_1 l0_1.length c0_1, .slice A0_2 l0_2.length c0_2]] w fun e w' => e = .returned (.bool r) ∧ Below w.heap.size w w' := by
 have hu26 := Try.underlying26
 have HR0_0 := qab.mk hr0_0
 have HC0_0 := qab.mk hc0_0
 clear hr0_0 hc0_0
 have HR0_1 := qab.mk hr0_1
 have HC0_1 := qab.mk hc0_1
 clear hr0_1 hc0_1
 have HR0_2 := qab.mk hr0_2
 have HC0_2 := qab.mk hc0_2
 clear hr0_2 hc0_2
 have HB := qab.mk (Below.refl w.heap.size w)
 have H : (taliklaw04_short.l0 k 0 l0_0 l0_1 l0_2) = some r := h
 clear h
 have H' := qab.mk H
 clear H
 go_enter Try.func16, Try.ntmps16
 go_wp2_with (first | ((with_reducible refine qar (N := 1) rfl ?_); (try (refine gate_guard (by rfl) ?_; dsimp only)); refine qap ?hg (N := 1) ?hd (cs := #[.slice A0_0 l0_0.length c0_0, .slice A0_1 l0_1.length c0_1, .slice A0_2 l0_2.length c0_2]) (t := 26) ?hr ?_; (case hd => rfl); (case hg => rfl); (case hr => first | (go_simp; done) | (go_simp; rfl)); intro gb121 hg w2 hbox hb; have n0_ := qab.mk (qag (by repeat (first | (with_reducible first | exact HB.out | apply qae | apply qad | apply qaf) | exact HB.out)) hb); have n1_ := qab.mk (hbox); have n2_ := qab.mk ((by rw [hg]; exact (qan (by repeat (first | (with_reducible first | exact HB.out | apply qae | apply qad | apply qaf) | exact HB.out))) : w.heap.size ≤ gb121)); have n3_ := qab.mk ((by rw [hg]; exact (qan (by repeat (first | (with_reducible first | exact HB.out | apply qae | apply qad | apply qaf) | exact HB.out))) : w.heap.size ≤ gb121)); clear HB; have HB := n0_; have BK121 := n1_; have GW121 := n2_; have GE121 := n3_; clear n0_ n1_ n2_ n3_; clear hb hbox hg))
 go_loopg [3] k (fun kq v3 w' => ∃ (x3_1 : Int), v3 = .int .i64 x3_1 ∧ qab (taliklaw04_short.l0 kq x3_1 l0_0 l0_1 l0_2 = some r) ∧ qab (kq ≤ k) ∧ qab (w'.heap[gb121]? = some (.cells #[(.slice A0_0 l0_0.length c0_0), (.slice A0_1 l0_1.length c0_1), (.slice A0_2 l0_2.length c0_2)] 26 (0, 0))) ∧ qab (Below w.heap.size w w'))
 case atStart => exact ⟨(0), (by first | rfl | (simp; done) | (simp [*]; done)), H', ⟨Nat.le_refl _⟩, ⟨by (with_reducible repeat (first | refine qal ?_ _ | refine qao ?_ | refine qaj ?_ _)); exact BK121.out⟩, ⟨by repeat (first | (with_reducible first | exact HB.out | apply qae | apply qad | apply qaf | refine qai ?_ GE121.out) | exact HB.out)⟩⟩
 case round =>
  clear H'
  try clear c1
  try clear p2
  obtain ⟨x3_1, rfl, HA, HK1, BK121, HB⟩ := hrel
  cases gk with
  | zero => exact absurd HA.out (by simp [taliklaw04_short.l0])
  | succ k1 =>
   have H := HA.out
   clear HA
   simp only [taliklaw04_short.l0] at H
   have HC3 := qab.mk H
   clear H
   go_upto_region 2 with (fail)
   go_cut [12] (fun v12 wc => ∃ (kq : Nat) (x12_2 : Bool), v12 = .bool x12_2 ∧ qab (taliklaw04_short.j1 kq x3_1 x12_2 l0_0 l0_1 l0_2 = some r) ∧ qab (kq ≤ k1) ∧ qab (wc.heap[gb121]? = some (.cells #[(.slice A0_0 l0_0.length c0_0), (.slice A0_1 l0_1.length c0_1), (.slice A0_2 l0_2.length c0_2)] 26 (0, 0))) ∧ qab (Below w.heap.size w wc))
   case first =>
    have H := HC3.out
    clear HC3
    by_cases c4 : x3_1 < (l0_2.length : Int)
    ·
     rw [if_pos c4] at H
     have c4b0 : decide (x3_1 < (l0_2.length : Int)) = true := decide_eq_true c4
     clear c4
     (first | rw [c4b0] | (simp only [i64_w, i32_w]; rw [c4b0]) | skip)
     have H' := qab.mk H
     clear H
     have hcz5_0 : wr.cell? ⟨gb121, 0, none⟩ = some (.slice A0_0 l0_0.length c0_0) := (qaa BK121.out 0).trans rfl
     have hcz5_1 : wr.cell? ⟨gb121, 1, none⟩ = some (.slice A0_1 l0_1.length c0_1) := (qaa BK121.out 1).trans rfl
     have hcz5_2 : wr.cell? ⟨gb121, 2, none⟩ = some (.slice A0_2 l0_2.length c0_2) := (qaa BK121.out 2).trans rfl
     have hfz5_0 := qac BK121.out 0
     have hfz5_1 := qac BK121.out 1
     have hfz5_2 := qac BK121.out 2
     go_wp2
     go_meet
     case rel => exact ⟨_, (decide (x3_1 < 10)), (by first | rfl | (simp; done) | (simp [*]; done)), H', ⟨by have := HK1.out; first | omega | exact Nat.le_refl _⟩, ⟨by (with_reducible repeat (first | refine qal ?_ _ | refine qao ?_ | refine qaj ?_ _)); exact BK121.out⟩, ⟨by repeat (first | (with_reducible first | exact HB.out | apply qae | apply qad | apply qaf | refine qai ?_ GE121.out) | exact HB.out)⟩⟩
    ·
     rw [if_neg c4] at H
     have c4b0 : decide (x3_1 < (l0_2.length : Int)) = false := decide_eq_false c4
     clear c4
     (first | rw [c4b0] | (simp only [i64_w, i32_w]; rw [c4b0]) | skip)
     have H' := qab.mk H
     clear H
     have hcz6_0 : wr.cell? ⟨gb121, 0, none⟩ = some (.slice A0_0 l0_0.length c0_0) := (qaa BK121.out 0).trans rfl
     have hcz6_1 : wr.cell? ⟨gb121, 1, none⟩ = some (.slice A0_1 l0_1.length c0_1) := (qaa BK121.out 1).trans rfl
     have hcz6_2 : wr.cell? ⟨gb121, 2, none⟩ = some (.slice A0_2 l0_2.length c0_2) := (qaa BK121.out 2).trans rfl
     have hfz6_0 := qac BK121.out 0
     have hfz6_1 := qac BK121.out 1
     have hfz6_2 := qac BK121.out 2
     go_wp2
     go_meet
     case rel => exact ⟨_, (false), (by first | rfl | (simp; done) | (simp [*]; done)), H', ⟨by have := HK1.out; first | omega | exact Nat.le_refl _⟩, ⟨by (with_reducible repeat (first | refine qal ?_ _ | refine qao ?_ | refine qaj ?_ _)); exact BK121.out⟩, ⟨by repeat (first | (with_reducible first | exact HB.out | apply qae | apply qad | apply qaf | refine qai ?_ GE121.out) | exact HB.out)⟩⟩
   case rest =>
    clear HC3
    try clear c1
    try clear p2
    try clear c4
    try clear c4b0
    try clear hcz5_0
    try clear hcz5_1
    try clear hcz5_2
    try clear hcz6_0
    try clear hcz6_1
    try clear hcz6_2
    try clear hfz5_0
    try clear hfz5_1
    try clear hfz5_2
    try clear hfz6_0
    try clear hfz6_1
    try clear hfz6_2
    try clear p2
    obtain ⟨kq, x12_2, rfl, HA, HJ2, BK121, HB⟩ := hcut
    cases kq with
    | zero => exact absurd HA.out (by simp [taliklaw04_short.j1])
    | succ kj2 =>
     have H := HA.out
     clear HA
     simp only [taliklaw04_short.j1] at H
     by_cases c7 : x12_2 = true
     ·
      subst c7
      have H1 : (if 0 ≤ x3_1 then (if x3_1 < (l0_2.length : Int) then (if ((rd_L1 l0_2 x3_1).length : Int) > 10 then (some false) else (taliklaw04_short.l0 kj2 (wrap64 (x3_1 + 1)) l0_0 l0_1 l0_2)) else (none)) else (none)) = some r := by rw [if_pos rfl] at H; exact H
      clear H
      have H := H1
      clear H1
      by_cases c8 : 0 ≤ x3_1
      ·
       rw [if_pos c8] at H
       have c8b0 : decide (0 ≤ x3_1) = true := decide_eq_true c8
       clear c8
       by_cases c9 : x3_1 < (l0_2.length : Int)
       ·
        rw [if_pos c9] at H
        have c9b0 : decide (x3_1 < (l0_2.length : Int)) = true := decide_eq_true c9
        clear c9
        by_cases c10 : ((rd_L1 l0_2 x3_1).length : Int) > 10
        ·
         rw [if_pos c10] at H
         have c10b0 : decide (10 < ((rd_L1 l0_2 x3_1).length : Int)) = true := decide_eq_true c10
         have c10b1 : decide (10 < (rd_L1 l0_2 x3_1).length) = true := decide_eq_true (by omega)
         clear c10
         obtain rfl := Option.some.inj H
         have hcz11_0 : wc.cell? ⟨gb121, 0, none⟩ = some (.slice A0_0 l0_0.length c0_0) := (qaa BK121.out 0).trans rfl
         have hcz11_1 : wc.cell? ⟨gb121, 1, none⟩ = some (.slice A0_1 l0_1.length c0_1) := (qaa BK121.out 1).trans rfl
         have hcz11_2 : wc.cell? ⟨gb121, 2, none⟩ = some (.slice A0_2 l0_2.length c0_2) := (qaa BK121.out 2).trans rfl
         have hfz11_0 := qac BK121.out 0
         have hfz11_1 := qac BK121.out 1
         have hfz11_2 := qac BK121.out 2
         have p122 : 0 ≤ (x3_1 : Int) := of_decide_eq_true (by first | (with_reducible assumption) | assumption)
         have q122 : x3_1 < (l0_2.length : Int) := of_decide_eq_true (by first | (with_reducible assumption) | assumption)
         obtain ⟨ad122, A122_0, c122_0, e122, hx122_0, hl122_0, hi122_0⟩ := at_L1 HR0_2.out x3_1 p122 q122
         cases e122
         replace hx122_0 := (HB.out.cell (World.block_lt_of_cell? w _ hx122_0)).trans hx122_0
         have HR122_0 := qab.mk hi122_0
         have HC122_0 := qab.mk hl122_0
         clear hi122_0 hl122_0
         replace p122 := eq_true p122
         replace q122 := eq_true q122
         go_wp2
         go_ret
         exact ⟨by first | rfl | (simp [qas, qat] <;> rfl) | (simp [*, qas, qat] <;> rfl), by repeat (first | (with_reducible first | exact HB.out | apply qae | apply qad | apply qaf | refine qai ?_ GE121.out) | exact HB.out)⟩
        ·
         rw [if_neg c10] at H
         have c10b0 : decide (10 < ((rd_L1 l0_2 x3_1).length : Int)) = false := decide_eq_false c10
         have c10b1 : decide (10 < (rd_L1 l0_2 x3_1).length) = false := decide_eq_false (by omega)
         clear c10
         have H' := qab.mk H
         clear H
         have hcz12_0 : wc.cell? ⟨gb121, 0, none⟩ = some (.slice A0_0 l0_0.length c0_0) := (qaa BK121.out 0).trans rfl
         have hcz12_1 : wc.cell? ⟨gb121, 1, none⟩ = some (.slice A0_1 l0_1.length c0_1) := (qaa BK121.out 1).trans rfl
         have hcz12_2 : wc.cell? ⟨gb121, 2, none⟩ = some (.slice A0_2 l0_2.length c0_2) := (qaa BK121.out 2).trans rfl
         have hfz12_0 := qac BK121.out 0
         have hfz12_1 := qac BK121.out 1
         have hfz12_2 := qac BK121.out 2
         have p122 : 0 ≤ (x3_1 : Int) := of_decide_eq_true (by first | (with_reducible assumption) | assumption)
         have q122 : x3_1 < (l0_2.length : Int) := of_decide_eq_true (by first | (with_reducible assumption) | assumption)
         obtain ⟨ad122, A122_0, c122_0, e122, hx122_0, hl122_0, hi122_0⟩ := at_L1 HR0_2.out x3_1 p122 q122
         cases e122
         replace hx122_0 := (HB.out.cell (World.block_lt_of_cell? w _ hx122_0)).trans hx122_0
         have HR122_0 := qab.mk hi122_0
         have HC122_0 := qab.mk hl122_0
         clear hi122_0 hl122_0
         replace p122 := eq_true p122
         replace q122 := eq_true q122
         go_wp2
         go_roundg kj2
         case measure => have := HK1.out; have := HJ2.out; omega
         case rel => exact ⟨(wrap64 (x3_1 + 1)), (by first | rfl | (simp; done) | (simp [*]; done)), H', ⟨by have := HK1.out; have := HJ2.out; omega⟩, ⟨by (with_reducible repeat (first | refine qal ?_ _ | refine qao ?_ | refine qaj ?_ _)); exact BK121.out⟩, ⟨by repeat (first | (with_reducible first | exact HB.out | apply qae | apply qad | apply qaf | refine qai ?_ GE121.out) | exact HB.out)⟩⟩
       ·
        rw [if_neg c9] at H
        exact absurd H (by simp)
      ·
       rw [if_neg c8] at H
       exact absurd H (by simp)
     ·
      replace c7 := Bool.eq_false_iff.mpr c7
      subst c7
      have H1 : (if (l0_0.length : Int) ≤ 8 then (if (l0_1.length : Int) ≤ 77 then (some (decide ((l0_2.length : Int) ≤ 10))) else (some false)) else (some false)) = some r := by rw [if_neg (show ¬ (false = true) by decide)] at H; exact H
      clear H
      have H := H1
      clear H1
      by_cases c13 : (l0_0.length : Int) ≤ 8
      ·
       rw [if_pos c13] at H
       have c13b0 : decide ((l0_0.length : Int) ≤ 8) = true := decide_eq_true c13
       have c13b1 : decide (l0_0.length ≤ 8) = true := decide_eq_true (by omega)
       clear c13
       by_cases c14 : (l0_1.length : Int) ≤ 77
       ·
        rw [if_pos c14] at H
        have c14b0 : decide ((l0_1.length : Int) ≤ 77) = true := decide_eq_true c14
        have c14b1 : decide (l0_1.length ≤ 77) = true := decide_eq_true (by omega)
        clear c14
        obtain rfl := Option.some.inj H
        have hcz15_0 : wc.cell? ⟨gb121, 0, none⟩ = some (.slice A0_0 l0_0.length c0_0) := (qaa BK121.out 0).trans rfl
        have hcz15_1 : wc.cell? ⟨gb121, 1, none⟩ = some (.slice A0_1 l0_1.length c0_1) := (qaa BK121.out 1).trans rfl
        have hcz15_2 : wc.cell? ⟨gb121, 2, none⟩ = some (.slice A0_2 l0_2.length c0_2) := (qaa BK121.out 2).trans rfl
        have hfz15_0 := qac BK121.out 0
        have hfz15_1 := qac BK121.out 1
        have hfz15_2 := qac BK121.out 2
        go_wp2
        go_ret
        exact ⟨by first | rfl | (simp [qas, qat] <;> rfl) | (simp [*, qas, qat] <;> rfl), by repeat (first | (with_reducible first | exact HB.out | apply qae | apply qad | apply qaf | refine qai ?_ GE121.out) | exact HB.out)⟩
       ·
        rw [if_neg c14] at H
        have c14b0 : decide ((l0_1.length : Int) ≤ 77) = false := decide_eq_false c14
        have c14b1 : decide (l0_1.length ≤ 77) = false := decide_eq_false (by omega)
        clear c14
        obtain rfl := Option.some.inj H
        have hcz16_0 : wc.cell? ⟨gb121, 0, none⟩ = some (.slice A0_0 l0_0.length c0_0) := (qaa BK121.out 0).trans rfl
        have hcz16_1 : wc.cell? ⟨gb121, 1, none⟩ = some (.slice A0_1 l0_1.length c0_1) := (qaa BK121.out 1).trans rfl
        have hcz16_2 : wc.cell? ⟨gb121, 2, none⟩ = some (.slice A0_2 l0_2.length c0_2) := (qaa BK121.out 2).trans rfl
        have hfz16_0 := qac BK121.out 0
        have hfz16_1 := qac BK121.out 1
        have hfz16_2 := qac BK121.out 2
        go_wp2
        go_ret
        exact ⟨by first | rfl | (simp [qas, qat] <;> rfl) | (simp [*, qas, qat] <;> rfl), by repeat (first | (with_reducible first | exact HB.out | apply qae | apply qad | apply qaf | refine qai ?_ GE121.out) | exact HB.out)⟩
      ·
       rw [if_neg c13] at H
       have c13b0 : decide ((l0_0.length : Int) ≤ 8) = false := decide_eq_false c13
       have c13b1 : decide (l0_0.length ≤ 8) = false := decide_eq_false (by omega)
       clear c13
       obtain rfl := Option.some.inj H
       have hcz17_0 : wc.cell? ⟨gb121, 0, none⟩ = some (.slice A0_0 l0_0.length c0_0) := (qaa BK121.out 0).trans rfl
       have hcz17_1 : wc.cell? ⟨gb121, 1, none⟩ = some (.slice A0_1 l0_1.length c0_1) := (qaa BK121.out 1).trans rfl
       have hcz17_2 : wc.cell? ⟨gb121, 2, none⟩ = some (.slice A0_2 l0_2.length c0_2) := (qaa BK121.out 2).trans rfl
       have hfz17_0 := qac BK121.out 0
       have hfz17_1 := qac BK121.out 1
       have hfz17_2 := qac BK121.out 2
       go_wp2
       go_ret
       exact ⟨by first | rfl | (simp [qas, qat] <;> rfl) | (simp [*, qas, qat] <;> rfl), by repeat (first | (with_reducible first | exact HB.out | apply qae | apply qad | apply qaf | refine qai ?_ GE121.out) | exact HB.out)⟩
end Go.Proofs.Ytipphcjgdebecaa.PA
namespace Go.Proofs.Ytipphcjgdebecaa.PA
open Go.RowKit Go.Proofs.YtipphcjgdebecaaW.PrintWords Go.Proofs.YtipphcjgdebecaaW.PrintLast Go.Proofs.YtipphcjgdebecaaW.PrintMore
attribute [local go_sem] max2_int min2_int max_two min_two max_three min_three max_four min_four
def bitB (s i : Int) : Bool := bits .and .i64 (s / 2 ^ min i.toNat 64) 1 == 1
def boxV (l : S39) (b : Bool) : Value := .iface (if b then 145 else 146) (.agg #[.int .i64 l.f0.f0, .int .i64 l.f0.f1, .int .i64 l.f1.f0, .int .i64 l.f1.f1, .int .i64 l.f2.f0, .int .i64 l.f2.f1, .int .i64 l.f3, .int .i64 l.f4, .int .i64 l.f5, .int .i64 l.f6, .int .i64 l.f7.f0, .int .i64 l.f7.f1])
set_option maxRecDepth 100000 in
set_option maxHeartbeats 2000000 in
theorem box_calls (A0 : Option Addr) (c0 : Nat) (l0 : List S39) (v1 v2 : Value) (wr i : Int) (w : World) (hr : Kd.C k39 w A0 l0.length l0) (h0 : 0 ≤ i) (h1 : i < l0.length) (h2 : 0 ≤ wr) : 
  Calls Try.prog 105 #[.agg #[.slice A0 l0.length c0, v1, v2, .int .i64 wr], .int .i64 i] w fun e w' => e = .returned (boxV (qak l0 i) (bitB wr i)) ∧ Below w.heap.size w w' := by
 have hu26 := Try.underlying26
 have hu99 := Try.underlying99
 have hu39 := Try.underlying39
 have hu145 := Try.underlying145
 have hu146 := Try.underlying146
 obtain ⟨ad, e, hl0, hl1, hl2, hl3, hl4, hl5, hl6, hl7, hl8, hl9, hl10, hl11⟩ := at_T39 hr i h0 h1
 cases e
 have HB := qab.mk (Below.refl w.heap.size w)
 obtain ⟨n, rfl⟩ := Int.eq_ofNat_of_zero_le h0
 simp only [Int.toNat_natCast] at hl0 hl1 hl2 hl3 hl4 hl5 hl6 hl7 hl8 hl9 hl10 hl11
 cases hb : bitB wr n
 all_goals
  have HT := qab.mk hb
  unfold bitB at hb
  simp only [Int.toNat_natCast] at hb
  go_enter Try.func105, Try.ntmps105
  go_wp2_with ((with_reducible refine qar (N := 2) rfl ?_); refine qap ?hg (N := 2) ?hd (cs := #[.slice (some ad) l0.length c0, v1, v2, .int .i64 wr]) (t := 99) ?hr ?_; (case hd => rfl); (case hg => rfl); (case hr => first | (go_simp; done) | (go_simp; rfl)); intro gb hg_gb w2 hbox hb; have BKgb := qab.mk hbox; have n_HB := qab.mk (qag HB.out hb); have GEgb : w.heap.size ≤ gb := (by rw [hg_gb]; exact HB.out.size); clear HB; have HB := n_HB; clear n_HB; have hfgb := qac BKgb.out; have hcgb_0 : w2.cell? ⟨gb, 0, none⟩ = some (.slice (some ad) l0.length c0) := (qaa BKgb.out 0).trans rfl; have hcgb_1 : w2.cell? ⟨gb, 1, none⟩ = some (v1) := (qaa BKgb.out 1).trans rfl; have hcgb_2 : w2.cell? ⟨gb, 2, none⟩ = some (v2) := (qaa BKgb.out 2).trans rfl; have hcgb_3 : w2.cell? ⟨gb, 3, none⟩ = some (.int .i64 wr) := (qaa BKgb.out 3).trans rfl; clear hbox hb hg_gb; replace hl0 := (HB.out.cell (World.block_lt_of_cell? w _ hl0)).trans hl0; replace hl1 := (HB.out.cell (World.block_lt_of_cell? w _ hl1)).trans hl1; replace hl2 := (HB.out.cell (World.block_lt_of_cell? w _ hl2)).trans hl2; replace hl3 := (HB.out.cell (World.block_lt_of_cell? w _ hl3)).trans hl3; replace hl4 := (HB.out.cell (World.block_lt_of_cell? w _ hl4)).trans hl4; replace hl5 := (HB.out.cell (World.block_lt_of_cell? w _ hl5)).trans hl5; replace hl6 := (HB.out.cell (World.block_lt_of_cell? w _ hl6)).trans hl6; replace hl7 := (HB.out.cell (World.block_lt_of_cell? w _ hl7)).trans hl7; replace hl8 := (HB.out.cell (World.block_lt_of_cell? w _ hl8)).trans hl8; replace hl9 := (HB.out.cell (World.block_lt_of_cell? w _ hl9)).trans hl9; replace hl10 := (HB.out.cell (World.block_lt_of_cell? w _ hl10)).trans hl10; replace hl11 := (HB.out.cell (World.block_lt_of_cell? w _ hl11)).trans hl11)
  go_ret
  exact ⟨rfl, HB.out⟩
theorem box_true (A0 : Option Addr) (c0 : Nat) (l0 : List S39) (v1 v2 : Value) (wr i : Int) (w : World) (hr : Kd.C k39 w A0 l0.length l0) (h0 : 0 ≤ i) (h1 : i < l0.length) (h2 : 0 ≤ wr) (hb : bitB wr i = true) : 
  Calls Try.prog 105 #[.agg #[.slice A0 l0.length c0, v1, v2, .int .i64 wr], .int .i64 i] w fun e w' => e = .returned (.iface 145 (.agg #[.int .i64 (qak l0 i).f0.f0, .int .i64 (qak l0 i).f0.f1, .int .i64 (qak l0 i).f1.f0, .int .i64 (qak l0 i).f1.f1, .int .i64 (qak l0 i).f2.f0, .int .i64 (qak l0 i).f2.f1, .int .i64 (qak l0 i).f3, .int .i64 (qak l0 i).f4, .int .i64 (qak l0 i).f5, .int .i64 (qak l0 i).f6, .int .i64 (qak l0 i).f7.f0, .int .i64 (qak l0 i).f7.f1])) ∧ Below w.heap.size w w' := by
 have h := box_calls A0 c0 l0 v1 v2 wr i w hr h0 h1 h2
 rw [hb] at h
 exact h
theorem box_false (A0 : Option Addr) (c0 : Nat) (l0 : List S39) (v1 v2 : Value) (wr i : Int) (w : World) (hr : Kd.C k39 w A0 l0.length l0) (h0 : 0 ≤ i) (h1 : i < l0.length) (h2 : 0 ≤ wr) (hb : bitB wr i = false) : 
  Calls Try.prog 105 #[.agg #[.slice A0 l0.length c0, v1, v2, .int .i64 wr], .int .i64 i] w fun e w' => e = .returned (.iface 146 (.agg #[.int .i64 (qak l0 i).f0.f0, .int .i64 (qak l0 i).f0.f1, .int .i64 (qak l0 i).f1.f0, .int .i64 (qak l0 i).f1.f1, .int .i64 (qak l0 i).f2.f0, .int .i64 (qak l0 i).f2.f1, .int .i64 (qak l0 i).f3, .int .i64 (qak l0 i).f4, .int .i64 (qak l0 i).f5, .int .i64 (qak l0 i).f6, .int .i64 (qak l0 i).f7.f0, .int .i64 (qak l0 i).f7.f1])) ∧ Below w.heap.size w w' := by
 have h := box_calls A0 c0 l0 v1 v2 wr i w hr h0 h1 h2
 rw [hb] at h
 exact h
theorem method_145 (v0 v1 v2 v3 v4 v5 v6 v7 v8 v9 v10 v11 : Value) (W : World) : (method 264 145 (.agg #[v0, v1, v2, v3, v4, v5, v6, v7, v8, v9, v10, v11]) "talik/pipe.leak").run Try.prog W = .ok (121, .agg #[v0, v1, v2, v3, v4, v5, v6, v7, v8, v9, v10, v11]) W := by kernel_rfl
theorem method_146 (v0 v1 v2 v3 v4 v5 v6 v7 v8 v9 v10 v11 : Value) (W : World) : (method 264 146 (.agg #[v0, v1, v2, v3, v4, v5, v6, v7, v8, v9, v10, v11]) "talik/pipe.leak").run Try.prog W = .ok (122, .agg #[v0, v1, v2, v3, v4, v5, v6, v7, v8, v9, v10, v11]) W := by kernel_rfl
theorem field37_0 (a b : Value) (W : World) : (Instr.field 37 (.agg #[a, b]) 0).run Try.prog W = .ok a W := by kernel_rfl
theorem field37_1 (a b : Value) (W : World) : (Instr.field 37 (.agg #[a, b]) 1).run Try.prog W = .ok b W := by kernel_rfl
def leakOf (l : S39) (b : Bool) : S37 := if b then l.f2 else l.f1
def lossV (leak frost warm : Int) : Int := (pipe_loss.f leak frost warm 0).getD 0
theorem loss_calls (leak frost warm : Int) (W : World) : Calls Try.prog 56 #[.int .i64 leak, .int .i64 frost, .int .i64 warm, .int .i64 0] W fun e w' => e = .returned (.int .i64 (lossV leak frost warm)) ∧ Below W.heap.size W w' :=
 pipe_loss.calls leak frost warm 0 _ W rfl
def greatestV (l0 : List S39) (l1 : List S37) (wr i h warm : Int) : Int := wrap64 (warm - lossV (leakOf (qak l0 i) (bitB wr i)).f0 (rd_T37 l1 h).f0 warm)
def leastV (l0 : List S39) (l1 : List S37) (wr i h warm : Int) : Int := wrap64 (warm - lossV (leakOf (qak l0 i) (bitB wr i)).f1 (rd_T37 l1 h).f1 warm)
set_option maxRecDepth 100000 in
set_option maxHeartbeats 4000000 in
theorem least_calls (A0 : Option Addr) (c0 : Nat) (l0 : List S39) (A1 : Option Addr) (c1 : Nat) (l1 : List S37) (v2 : Value) (wr i h warm : Int) (w : World) (hr : Kd.C k39 w A0 l0.length l0) (hr1 : Kd.C k37 w A1 l1.length l1) (h0 : 0 ≤ i) (h1 : i < l0.length) (h2 : 0 ≤ wr) (h3 : 0 ≤ h) (h4 : h < l1.length) : 
  Calls Try.prog 98 #[.agg #[.slice A0 l0.length c0, .slice A1 l1.length c1, v2, .int .i64 wr], .int .i64 i, .int .i64 h, .int .i64 warm] w fun e w' => e = .returned (.int .i64 (leastV l0 l1 wr i h warm)) ∧ Below w.heap.size w w' := by
 have hu26 := Try.underlying26
 have hu99 := Try.underlying99
 have hu37 := Try.underlying37
 obtain ⟨ad, e, hf0, hf1⟩ := at_T37 hr1 h h3 h4
 cases e
 have HR := qab.mk hr
 clear hr
 have HB := qab.mk (Below.refl w.heap.size w)
 obtain ⟨n, rfl⟩ := Int.eq_ofNat_of_zero_le h3
 simp only [Int.toNat_natCast] at hf0 hf1
 cases hb : bitB wr i
 ·
  have HT := qab.mk hb
  clear hb
  have hm := method_146
  have hfa := field37_0
  have hfb := field37_1
  go_enter Try.func98, Try.ntmps98
  go_wp2_with ((with_reducible refine qar (N := 4) rfl ?_); refine qap ?hg (N := 4) ?hd (cs := #[.slice A0 l0.length c0, .slice (some ad) l1.length c1, v2, .int .i64 wr]) (t := 99) ?hr ?_; (case hd => rfl); (case hg => rfl); (case hr => first | (go_simp; done) | (go_simp; rfl)); intro gb hg_gb w2 hbox hb; have BKgb := qab.mk hbox; have n_HB := qab.mk (qag HB.out hb); have GEgb : w.heap.size ≤ gb := (by rw [hg_gb]; exact HB.out.size); clear HB; have HB := n_HB; clear n_HB; have hfgb := qac BKgb.out; have hcgb_0 : w2.cell? ⟨gb, 0, none⟩ = some (.slice A0 l0.length c0) := (qaa BKgb.out 0).trans rfl; have hcgb_1 : w2.cell? ⟨gb, 1, none⟩ = some (.slice (some ad) l1.length c1) := (qaa BKgb.out 1).trans rfl; have hcgb_2 : w2.cell? ⟨gb, 2, none⟩ = some (v2) := (qaa BKgb.out 2).trans rfl; have hcgb_3 : w2.cell? ⟨gb, 3, none⟩ = some (.int .i64 wr) := (qaa BKgb.out 3).trans rfl; clear hbox hb hg_gb; replace hf0 := (HB.out.cell (World.block_lt_of_cell? w _ hf0)).trans hf0; replace hf1 := (HB.out.cell (World.block_lt_of_cell? w _ hf1)).trans hf1)
  go_region_held3 (fun w' => w'.cell? ⟨gb, 0, none⟩ = some (.slice A0 l0.length c0) ∧ w'.cell? ⟨gb, 1, none⟩ = some (.slice (some ad) l1.length c1) ∧ w'.cell? ⟨gb, 2, none⟩ = some v2 ∧ w'.cell? ⟨gb, 3, none⟩ = some (.int .i64 wr) ∧ w'.cell? ⟨(ad.add (n * 2)).block, (ad.add (n * 2)).off + 1, none⟩ = some (.int .i64 (rd_T37 l1 n).f1) ∧ qab (Below w2.heap.size w2 w'))
   (first | exact ⟨hcgb_0, hcgb_1, hcgb_2, hcgb_3, hf1, ⟨below_drew (Below.refl _ _)⟩⟩ | exact ⟨(HX.out.cell (World.block_lt_of_cell? w2 _ hcgb_0)).trans hcgb_0, (HX.out.cell (World.block_lt_of_cell? w2 _ hcgb_1)).trans hcgb_1, (HX.out.cell (World.block_lt_of_cell? w2 _ hcgb_2)).trans hcgb_2, (HX.out.cell (World.block_lt_of_cell? w2 _ hcgb_3)).trans hcgb_3, (HX.out.cell (World.block_lt_of_cell? w2 _ hf1)).trans hf1, HX⟩)
   (first | (go_at_call 105; refine (box_false _ _ _ _ _ _ _ _ (Kd.qam (Kd.qam HR.out HB.out) (qab.out (And.right (And.right (And.right (And.right (And.right (by assumption)))))))) h0 h1 h2 HT.out).mono ?_; rintro e w3 ⟨rfl, hb⟩; have HX : qab (Below w2.heap.size w2 w3) := ⟨qag (qab.out (And.right (And.right (And.right (And.right (And.right (by assumption))))))) hb⟩) | (go_at_call 122; refine (pipe_bare_leak.calls _ _ _ _ _ _ _ _ _ _ _ _ _ _ _ rfl).mono ?_; rintro e w3 ⟨rfl, hb⟩; have HX : qab (Below w2.heap.size w2 w3) := ⟨qag (qab.out (And.right (And.right (And.right (And.right (And.right (by assumption))))))) hb⟩) | (go_at_call 56; refine (loss_calls _ _ _ _).mono ?_; rintro e w3 ⟨rfl, hb⟩; have HX : qab (Below w2.heap.size w2 w3) := ⟨qag (qab.out (And.right (And.right (And.right (And.right (And.right (by assumption))))))) hb⟩))
  go_wp2
  go_ret
  exact ⟨by unfold leastV; rw [HT.out]; simp only [i64_w]; rfl, qag HB.out (qab.out (And.right (And.right (And.right (And.right (And.right (by assumption)))))))⟩
 ·
  have HT := qab.mk hb
  clear hb
  have hm := method_145
  have hfa := field37_0
  have hfb := field37_1
  go_enter Try.func98, Try.ntmps98
  go_wp2_with ((with_reducible refine qar (N := 4) rfl ?_); refine qap ?hg (N := 4) ?hd (cs := #[.slice A0 l0.length c0, .slice (some ad) l1.length c1, v2, .int .i64 wr]) (t := 99) ?hr ?_; (case hd => rfl); (case hg => rfl); (case hr => first | (go_simp; done) | (go_simp; rfl)); intro gb hg_gb w2 hbox hb; have BKgb := qab.mk hbox; have n_HB := qab.mk (qag HB.out hb); have GEgb : w.heap.size ≤ gb := (by rw [hg_gb]; exact HB.out.size); clear HB; have HB := n_HB; clear n_HB; have hfgb := qac BKgb.out; have hcgb_0 : w2.cell? ⟨gb, 0, none⟩ = some (.slice A0 l0.length c0) := (qaa BKgb.out 0).trans rfl; have hcgb_1 : w2.cell? ⟨gb, 1, none⟩ = some (.slice (some ad) l1.length c1) := (qaa BKgb.out 1).trans rfl; have hcgb_2 : w2.cell? ⟨gb, 2, none⟩ = some (v2) := (qaa BKgb.out 2).trans rfl; have hcgb_3 : w2.cell? ⟨gb, 3, none⟩ = some (.int .i64 wr) := (qaa BKgb.out 3).trans rfl; clear hbox hb hg_gb; replace hf0 := (HB.out.cell (World.block_lt_of_cell? w _ hf0)).trans hf0; replace hf1 := (HB.out.cell (World.block_lt_of_cell? w _ hf1)).trans hf1)
  go_region_held3 (fun w' => w'.cell? ⟨gb, 0, none⟩ = some (.slice A0 l0.length c0) ∧ w'.cell? ⟨gb, 1, none⟩ = some (.slice (some ad) l1.length c1) ∧ w'.cell? ⟨gb, 2, none⟩ = some v2 ∧ w'.cell? ⟨gb, 3, none⟩ = some (.int .i64 wr) ∧ w'.cell? ⟨(ad.add (n * 2)).block, (ad.add (n * 2)).off + 1, none⟩ = some (.int .i64 (rd_T37 l1 n).f1) ∧ qab (Below w2.heap.size w2 w'))
   (first | exact ⟨hcgb_0, hcgb_1, hcgb_2, hcgb_3, hf1, ⟨below_drew (Below.refl _ _)⟩⟩ | exact ⟨(HX.out.cell (World.block_lt_of_cell? w2 _ hcgb_0)).trans hcgb_0, (HX.out.cell (World.block_lt_of_cell? w2 _ hcgb_1)).trans hcgb_1, (HX.out.cell (World.block_lt_of_cell? w2 _ hcgb_2)).trans hcgb_2, (HX.out.cell (World.block_lt_of_cell? w2 _ hcgb_3)).trans hcgb_3, (HX.out.cell (World.block_lt_of_cell? w2 _ hf1)).trans hf1, HX⟩)
   (first | (go_at_call 105; refine (box_true _ _ _ _ _ _ _ _ (Kd.qam (Kd.qam HR.out HB.out) (qab.out (And.right (And.right (And.right (And.right (And.right (by assumption)))))))) h0 h1 h2 HT.out).mono ?_; rintro e w3 ⟨rfl, hb⟩; have HX : qab (Below w2.heap.size w2 w3) := ⟨qag (qab.out (And.right (And.right (And.right (And.right (And.right (by assumption))))))) hb⟩) | (go_at_call 121; refine (pipe_wrapped_leak.calls _ _ _ _ _ _ _ _ _ _ _ _ _ _ _ rfl).mono ?_; rintro e w3 ⟨rfl, hb⟩; have HX : qab (Below w2.heap.size w2 w3) := ⟨qag (qab.out (And.right (And.right (And.right (And.right (And.right (by assumption))))))) hb⟩) | (go_at_call 56; refine (loss_calls _ _ _ _).mono ?_; rintro e w3 ⟨rfl, hb⟩; have HX : qab (Below w2.heap.size w2 w3) := ⟨qag (qab.out (And.right (And.right (And.right (And.right (And.right (by assumption))))))) hb⟩))
  go_wp2
  go_ret
  exact ⟨by unfold leastV; rw [HT.out]; simp only [i64_w]; rfl, qag HB.out (qab.out (And.right (And.right (And.right (And.right (And.right (by assumption)))))))⟩
set_option maxRecDepth 100000 in
set_option maxHeartbeats 4000000 in
theorem greatest_calls (A0 : Option Addr) (c0 : Nat) (l0 : List S39) (A1 : Option Addr) (c1 : Nat) (l1 : List S37) (v2 : Value) (wr i h warm : Int) (w : World) (hr : Kd.C k39 w A0 l0.length l0) (hr1 : Kd.C k37 w A1 l1.length l1) (h0 : 0 ≤ i) (h1 : i < l0.length) (h2 : 0 ≤ wr) (h3 : 0 ≤ h) (h4 : h < l1.length) : 
  Calls Try.prog 99 #[.agg #[.slice A0 l0.length c0, .slice A1 l1.length c1, v2, .int .i64 wr], .int .i64 i, .int .i64 h, .int .i64 warm] w fun e w' => e = .returned (.int .i64 (greatestV l0 l1 wr i h warm)) ∧ Below w.heap.size w w' := by
 have hu26 := Try.underlying26
 have hu99 := Try.underlying99
 have hu37 := Try.underlying37
 obtain ⟨ad, e, hf0, hf1⟩ := at_T37 hr1 h h3 h4
 cases e
 have HR := qab.mk hr
 clear hr
 have HB := qab.mk (Below.refl w.heap.size w)
 obtain ⟨n, rfl⟩ := Int.eq_ofNat_of_zero_le h3
 simp only [Int.toNat_natCast] at hf0 hf1
 cases hb : bitB wr i
 ·
  have HT := qab.mk hb
  clear hb
  have hm := method_146
  have hfa := field37_0
  have hfb := field37_1
  go_enter Try.func99, Try.ntmps99
  go_wp2_with ((with_reducible refine qar (N := 4) rfl ?_); refine qap ?hg (N := 4) ?hd (cs := #[.slice A0 l0.length c0, .slice (some ad) l1.length c1, v2, .int .i64 wr]) (t := 99) ?hr ?_; (case hd => rfl); (case hg => rfl); (case hr => first | (go_simp; done) | (go_simp; rfl)); intro gb hg_gb w2 hbox hb; have BKgb := qab.mk hbox; have n_HB := qab.mk (qag HB.out hb); have GEgb : w.heap.size ≤ gb := (by rw [hg_gb]; exact HB.out.size); clear HB; have HB := n_HB; clear n_HB; have hfgb := qac BKgb.out; have hcgb_0 : w2.cell? ⟨gb, 0, none⟩ = some (.slice A0 l0.length c0) := (qaa BKgb.out 0).trans rfl; have hcgb_1 : w2.cell? ⟨gb, 1, none⟩ = some (.slice (some ad) l1.length c1) := (qaa BKgb.out 1).trans rfl; have hcgb_2 : w2.cell? ⟨gb, 2, none⟩ = some (v2) := (qaa BKgb.out 2).trans rfl; have hcgb_3 : w2.cell? ⟨gb, 3, none⟩ = some (.int .i64 wr) := (qaa BKgb.out 3).trans rfl; clear hbox hb hg_gb; replace hf0 := (HB.out.cell (World.block_lt_of_cell? w _ hf0)).trans hf0; replace hf1 := (HB.out.cell (World.block_lt_of_cell? w _ hf1)).trans hf1)
  go_region_held3 (fun w' => w'.cell? ⟨gb, 0, none⟩ = some (.slice A0 l0.length c0) ∧ w'.cell? ⟨gb, 1, none⟩ = some (.slice (some ad) l1.length c1) ∧ w'.cell? ⟨gb, 2, none⟩ = some v2 ∧ w'.cell? ⟨gb, 3, none⟩ = some (.int .i64 wr) ∧ w'.cell? (ad.add (n * 2)) = some (.int .i64 (rd_T37 l1 n).f0) ∧ qab (Below w2.heap.size w2 w'))
   (first | exact ⟨hcgb_0, hcgb_1, hcgb_2, hcgb_3, hf0, ⟨below_drew (Below.refl _ _)⟩⟩ | exact ⟨(HX.out.cell (World.block_lt_of_cell? w2 _ hcgb_0)).trans hcgb_0, (HX.out.cell (World.block_lt_of_cell? w2 _ hcgb_1)).trans hcgb_1, (HX.out.cell (World.block_lt_of_cell? w2 _ hcgb_2)).trans hcgb_2, (HX.out.cell (World.block_lt_of_cell? w2 _ hcgb_3)).trans hcgb_3, (HX.out.cell (World.block_lt_of_cell? w2 _ hf0)).trans hf0, HX⟩)
   (first | (go_at_call 105; refine (box_false _ _ _ _ _ _ _ _ (Kd.qam (Kd.qam HR.out HB.out) (qab.out (And.right (And.right (And.right (And.right (And.right (by assumption)))))))) h0 h1 h2 HT.out).mono ?_; rintro e w3 ⟨rfl, hb⟩; have HX : qab (Below w2.heap.size w2 w3) := ⟨qag (qab.out (And.right (And.right (And.right (And.right (And.right (by assumption))))))) hb⟩) | (go_at_call 122; refine (pipe_bare_leak.calls _ _ _ _ _ _ _ _ _ _ _ _ _ _ _ rfl).mono ?_; rintro e w3 ⟨rfl, hb⟩; have HX : qab (Below w2.heap.size w2 w3) := ⟨qag (qab.out (And.right (And.right (And.right (And.right (And.right (by assumption))))))) hb⟩) | (go_at_call 56; refine (loss_calls _ _ _ _).mono ?_; rintro e w3 ⟨rfl, hb⟩; have HX : qab (Below w2.heap.size w2 w3) := ⟨qag (qab.out (And.right (And.right (And.right (And.right (And.right (by assumption))))))) hb⟩))
  go_wp2
  go_ret
  exact ⟨by unfold greatestV; rw [HT.out]; simp only [i64_w]; rfl, qag HB.out (qab.out (And.right (And.right (And.right (And.right (And.right (by assumption)))))))⟩
 ·
  have HT := qab.mk hb
  clear hb
  have hm := method_145
  have hfa := field37_0
  have hfb := field37_1
  go_enter Try.func99, Try.ntmps99
  go_wp2_with ((with_reducible refine qar (N := 4) rfl ?_); refine qap ?hg (N := 4) ?hd (cs := #[.slice A0 l0.length c0, .slice (some ad) l1.length c1, v2, .int .i64 wr]) (t := 99) ?hr ?_; (case hd => rfl); (case hg => rfl); (case hr => first | (go_simp; done) | (go_simp; rfl)); intro gb hg_gb w2 hbox hb; have BKgb := qab.mk hbox; have n_HB := qab.mk (qag HB.out hb); have GEgb : w.heap.size ≤ gb := (by rw [hg_gb]; exact HB.out.size); clear HB; have HB := n_HB; clear n_HB; have hfgb := qac BKgb.out; have hcgb_0 : w2.cell? ⟨gb, 0, none⟩ = some (.slice A0 l0.length c0) := (qaa BKgb.out 0).trans rfl; have hcgb_1 : w2.cell? ⟨gb, 1, none⟩ = some (.slice (some ad) l1.length c1) := (qaa BKgb.out 1).trans rfl; have hcgb_2 : w2.cell? ⟨gb, 2, none⟩ = some (v2) := (qaa BKgb.out 2).trans rfl; have hcgb_3 : w2.cell? ⟨gb, 3, none⟩ = some (.int .i64 wr) := (qaa BKgb.out 3).trans rfl; clear hbox hb hg_gb; replace hf0 := (HB.out.cell (World.block_lt_of_cell? w _ hf0)).trans hf0; replace hf1 := (HB.out.cell (World.block_lt_of_cell? w _ hf1)).trans hf1)
  go_region_held3 (fun w' => w'.cell? ⟨gb, 0, none⟩ = some (.slice A0 l0.length c0) ∧ w'.cell? ⟨gb, 1, none⟩ = some (.slice (some ad) l1.length c1) ∧ w'.cell? ⟨gb, 2, none⟩ = some v2 ∧ w'.cell? ⟨gb, 3, none⟩ = some (.int .i64 wr) ∧ w'.cell? (ad.add (n * 2)) = some (.int .i64 (rd_T37 l1 n).f0) ∧ qab (Below w2.heap.size w2 w'))
   (first | exact ⟨hcgb_0, hcgb_1, hcgb_2, hcgb_3, hf0, ⟨below_drew (Below.refl _ _)⟩⟩ | exact ⟨(HX.out.cell (World.block_lt_of_cell? w2 _ hcgb_0)).trans hcgb_0, (HX.out.cell (World.block_lt_of_cell? w2 _ hcgb_1)).trans hcgb_1, (HX.out.cell (World.block_lt_of_cell? w2 _ hcgb_2)).trans hcgb_2, (HX.out.cell (World.block_lt_of_cell? w2 _ hcgb_3)).trans hcgb_3, (HX.out.cell (World.block_lt_of_cell? w2 _ hf0)).trans hf0, HX⟩)
   (first | (go_at_call 105; refine (box_true _ _ _ _ _ _ _ _ (Kd.qam (Kd.qam HR.out HB.out) (qab.out (And.right (And.right (And.right (And.right (And.right (by assumption)))))))) h0 h1 h2 HT.out).mono ?_; rintro e w3 ⟨rfl, hb⟩; have HX : qab (Below w2.heap.size w2 w3) := ⟨qag (qab.out (And.right (And.right (And.right (And.right (And.right (by assumption))))))) hb⟩) | (go_at_call 121; refine (pipe_wrapped_leak.calls _ _ _ _ _ _ _ _ _ _ _ _ _ _ _ rfl).mono ?_; rintro e w3 ⟨rfl, hb⟩; have HX : qab (Below w2.heap.size w2 w3) := ⟨qag (qab.out (And.right (And.right (And.right (And.right (And.right (by assumption))))))) hb⟩) | (go_at_call 56; refine (loss_calls _ _ _ _).mono ?_; rintro e w3 ⟨rfl, hb⟩; have HX : qab (Below w2.heap.size w2 w3) := ⟨qag (qab.out (And.right (And.right (And.right (And.right (And.right (by assumption))))))) hb⟩))
  go_wp2
  go_ret
  exact ⟨by unfold greatestV; rw [HT.out]; simp only [i64_w]; rfl, qag HB.out (qab.out (And.right (And.right (And.right (And.right (And.right (by assumption)))))))⟩
def wAt (f : Int → Int → Int) (w0 : Int) : Nat → Int
 | 0 => w0
 | k + 1 => f k (wAt f w0 k)
def wList (f : Int → Int → Int) (w0 : Int) (n : Nat) : List Int := (List.range n).map fun k => wAt f w0 (k + 1)
theorem wList_succ (f : Int → Int → Int) (w0 : Int) (n : Nat) : wList f w0 (n + 1) = wList f w0 n ++ [wAt f w0 (n + 1)] := by simp [wList, List.range_succ]
theorem wList_length (f : Int → Int → Int) (w0 : Int) (n : Nat) : (wList f w0 n).length = n := by simp [wList]
def WInv (w W : World) (gb gf ge : Nat) (cb cf : Array Value) (u0 u1 : Value) (xs0 xs1 : List Int) : Prop :=
 W.heap[gb]? = some (.cells cb 99 (0, 0)) ∧ W.heap[gf]? = some (.cells cf 130 (0, 0)) ∧ W.heap[ge]? = some (.cells #[u0, u1] 129 (0, 0)) ∧
 Kd.R (Kd.int .i64) 3 W w.heap.size (fun k => some k ≠ u1.ownBlock) u0 xs0 ∧ Kd.R (Kd.int .i64) 3 W w.heap.size (fun k => some k ≠ u0.ownBlock) u1 xs1 ∧ Below w.heap.size w W ∧ w.heap.size ≤ ge
section
variable {w W W1 : World} {gb gf ge : Nat} {cb cf : Array Value} {u0 u1 v' : Value} {xs0 xs1 : List Int} {x : Int}
theorem WInv.below (h : WInv w W gb gf ge cb cf u0 u1 xs0 xs1) (hb : Below W.heap.size W W1) : WInv w W1 gb gf ge cb cf u0 u1 xs0 xs1 := by
 obtain ⟨a, b, c, d, e, f, g⟩ := h
 exact ⟨qah a hb, qah b hb, qah c hb, Kd.R_below d hb, Kd.R_below e hb, qag f hb, g⟩
theorem WInv.put0 (h : WInv w W gb gf ge cb cf u0 u1 xs0 xs1) (ho : Kd.R (Kd.int .i64) 3 W1 w.heap.size (fun k => some k ≠ u1.ownBlock) v' (xs0 ++ [x])) (hB : Below w.heap.size w W1) (hg : W.grownBy W1 u0.ownBlock)
  (hat : v'.ownBlock = u0.ownBlock ∨ ∃ b, v'.ownBlock = some b ∧ W.heap.size ≤ b) : WInv w (W1.setCell ⟨ge, 0, none⟩ v') gb gf ge cb cf v' u1 (xs0 ++ [x]) xs1 := by
 obtain ⟨a, b, c, d, e, f, g⟩ := h
 have c1 := blk_grown c hg (Kd.R_ne d c (by decide))
 have a1 := blk_grown a hg (Kd.R_ne d a (by decide))
 have b1 := blk_grown b hg (Kd.R_ne d b (by decide))
 refine ⟨blk_far a1 (p := ⟨ge, 0, none⟩) (blk_ne a c (by decide)) _, blk_far b1 (p := ⟨ge, 0, none⟩) (blk_ne b c (by decide)) _, (blk_set c1 0 v'), ?_, ?_, qai hB g, g⟩
 ·
  exact Kd.R_set ho c1 (by decide) 0 v'
 ·
  have e1 := Kd.R_after (ok := fun _ => True) (v1 := v') (Kd.R_mono e (fun k hk => ⟨trivial, hk⟩)) hg hat
  exact Kd.R_set (Kd.R_mono e1 (fun k hk => hk.2)) c1 (by decide) 0 v'
theorem WInv.put1 (h : WInv w W gb gf ge cb cf u0 u1 xs0 xs1) (ho : Kd.R (Kd.int .i64) 3 W1 w.heap.size (fun k => some k ≠ u0.ownBlock) v' (xs1 ++ [x])) (hB : Below w.heap.size w W1) (hg : W.grownBy W1 u1.ownBlock)
  (hat : v'.ownBlock = u1.ownBlock ∨ ∃ b, v'.ownBlock = some b ∧ W.heap.size ≤ b) : WInv w (W1.setCell ⟨ge, 1, none⟩ v') gb gf ge cb cf u0 v' xs0 (xs1 ++ [x]) := by
 obtain ⟨a, b, c, d, e, f, g⟩ := h
 have c1 := blk_grown c hg (Kd.R_ne e c (by decide))
 have a1 := blk_grown a hg (Kd.R_ne e a (by decide))
 have b1 := blk_grown b hg (Kd.R_ne e b (by decide))
 refine ⟨blk_far a1 (p := ⟨ge, 1, none⟩) (blk_ne a c (by decide)) _, blk_far b1 (p := ⟨ge, 1, none⟩) (blk_ne b c (by decide)) _, (blk_set c1 1 v'), ?_, ?_, qai hB g, g⟩
 ·
  have e1 := Kd.R_after (ok := fun _ => True) (v1 := v') (Kd.R_mono d (fun k hk => ⟨trivial, hk⟩)) hg hat
  exact Kd.R_set (Kd.R_mono e1 (fun k hk => hk.2)) c1 (by decide) 1 v'
 ·
  exact Kd.R_set ho c1 (by decide) 1 v'
end
theorem rd_wList (f : Int → Int → Int) (w0 : Int) (n j : Nat) (h : j < n) : rd (wList f w0 n) j = wAt f w0 (j + 1) := by simp [rd, wList, h]
theorem WInv.grown37 {w W W1 : World} {gb gf ge : Nat} {cb cf : Array Value} {u0 u1 v : Value} {xs0 xs1 : List Int} {ok : Nat → Prop} {ys : List S37} (h : WInv w W gb gf ge cb cf u0 u1 xs0 xs1) (hv : Kd.R k37 37 W w.heap.size ok v ys) (hg : W.grownBy W1 v.ownBlock) (hB : Below w.heap.size w W1) : WInv w W1 gb gf ge cb cf u0 u1 xs0 xs1 := by
 obtain ⟨a, b, c, d, e, f, g⟩ := h
 exact ⟨blk_grown a hg (Kd.R_ne hv a (by decide)), blk_grown b hg (Kd.R_ne hv b (by decide)), blk_grown c hg (Kd.R_ne hv c (by decide)), Kd.R_over d hv (by decide) hg, Kd.R_over e hv (by decide) hg, hB, g⟩
def warmthV (l0 : List S39) (l1 : List S37) (wp i : Int) : List S37 :=
 (List.range l1.length).map fun h => ⟨wAt (fun h x => leastV l0 l1 wp i h x) (qak l0 i).f0.f0 (h + 1), wAt (fun h x => greatestV l0 l1 wp i h x) (qak l0 i).f0.f1 (h + 1)⟩
set_option maxRecDepth 100000 in
set_option maxHeartbeats 4000000 in
theorem warmth_calls (A0 : Option Addr) (c0 : Nat) (l0 : List S39) (A1 : Option Addr) (c1 : Nat) (l1 : List S37) (v2 : Value) (wp i : Int) (w : World) (hr : Kd.C k39 w A0 l0.length l0) (hr1 : Kd.C k37 w A1 l1.length l1) (h0 : 0 ≤ i) (h1 : i < l0.length) (h2 : 0 ≤ wp) (hn : l1.length ≤ 1000) : 
  Calls Try.prog 79 #[.agg #[.slice A0 l0.length c0, .slice A1 l1.length c1, v2, .int .i64 wp], .int .i64 i] w fun e w' => ∃ v0_ : Value, e = .returned (v0_) ∧ Kd.R k37 37 w' w.heap.size (fun _ => True) v0_ (warmthV l0 l1 wp i) ∧ Below w.heap.size w w' := by
 have hu26 := Try.underlying26
 have hu99 := Try.underlying99
 have hu37 := Try.underlying37
 have hu39 := Try.underlying39
 have hu129 := Try.underlying129
 have hu130 := Try.underlying130
 have hu132 := Try.underlying132
 obtain ⟨ad, e, hl0, hl1, hl2, hl3, hl4, hl5, hl6, hl7, hl8, hl9, hl10, hl11⟩ := at_T39 hr i h0 h1
 cases e
 obtain ⟨n, rfl⟩ := Int.eq_ofNat_of_zero_le h0
 simp only [Int.toNat_natCast] at hl0 hl1 hl2 hl3 hl4 hl5 hl6 hl7 hl8 hl9 hl10 hl11
 clear hl2 hl3 hl4 hl5 hl6 hl7 hl8 hl9 hl10 hl11
 have HR := qab.mk hr
 have HR1 := qab.mk hr1
 clear hr hr1
 have HB := qab.mk (Below.refl w.heap.size w)
 go_enter Try.func79, Try.ntmps79
 go_wp2_with ((with_reducible refine qar (N := 2) rfl ?_); refine qap ?hg (N := 2) ?hd (cs := #[.slice (some ad) l0.length c0, .slice A1 l1.length c1, v2, .int .i64 wp]) (t := 99) ?hr ?_; (case hd => rfl); (case hg => rfl); (case hr => first | (go_simp; done) | (go_simp; rfl)); intro gb hg_gb w2 hbox hb; have BKgb := qab.mk hbox; have n_HB := qab.mk (qag HB.out hb); have GEgb : w.heap.size ≤ gb := (by rw [hg_gb]; exact HB.out.size); clear HB; have HB := n_HB; clear n_HB; have hfgb := qac BKgb.out; have hcgb_0 : w2.cell? ⟨gb, 0, none⟩ = some (.slice (some ad) l0.length c0) := (qaa BKgb.out 0).trans rfl; have hcgb_1 : w2.cell? ⟨gb, 1, none⟩ = some (.slice A1 l1.length c1) := (qaa BKgb.out 1).trans rfl; have hcgb_2 : w2.cell? ⟨gb, 2, none⟩ = some (v2) := (qaa BKgb.out 2).trans rfl; have hcgb_3 : w2.cell? ⟨gb, 3, none⟩ = some (.int .i64 wp) := (qaa BKgb.out 3).trans rfl; clear hbox hb hg_gb)
 have hbk := blk_new w2 (.cells #[.slice none 0 0, .slice none 0 0] 129); have hb : Below w2.heap.size w2 (w2.alloc (.cells #[.slice none 0 0, .slice none 0 0] 129)) := (Below.refl _ _).alloc (Nat.le_refl _) _; generalize hw_ : (w2.alloc (.cells #[.slice none 0 0, .slice none 0 0] 129)) = w3 at hbk hb ⊢; clear hw_; have n_BKgb := qab.mk (qah BKgb.out hb); clear BKgb; have BKgb := n_BKgb; clear n_BKgb; have GEge : w.heap.size ≤ w2.heap.size := HB.out.size; have n_HB := qab.mk (qag HB.out hb); clear HB; have HB := n_HB; clear n_HB; clear hb; generalize hg_ : w2.heap.size = ge at hbk GEge ⊢; clear hg_; have BKge := qab.mk hbk; clear hbk; have hfge := qac BKge.out; have hcge_0 : w3.cell? ⟨ge, 0, none⟩ = some (.slice none 0 0) := (qaa BKge.out 0).trans rfl; have hcge_1 : w3.cell? ⟨ge, 1, none⟩ = some (.slice none 0 0) := (qaa BKge.out 1).trans rfl; have hfgb := qac BKgb.out; have hcgb_0 : w3.cell? ⟨gb, 0, none⟩ = some (.slice (some ad) l0.length c0) := (qaa BKgb.out 0).trans rfl; have hcgb_1 : w3.cell? ⟨gb, 1, none⟩ = some (.slice A1 l1.length c1) := (qaa BKgb.out 1).trans rfl; have hcgb_2 : w3.cell? ⟨gb, 2, none⟩ = some (v2) := (qaa BKgb.out 2).trans rfl; have hcgb_3 : w3.cell? ⟨gb, 3, none⟩ = some (.int .i64 wp) := (qaa BKgb.out 3).trans rfl; replace hl0 := (HB.out.cell (World.block_lt_of_cell? w _ hl0)).trans hl0; replace hl1 := (HB.out.cell (World.block_lt_of_cell? w _ hl1)).trans hl1
 have ne0 := World.new_ne w3 _ hcgb_0
 have ne1 := World.new_ne w3 _ hl0
 go_region_held3 (fun w' => w'.cell? ⟨gb, 0, none⟩ = some (.slice (some ad) l0.length c0) ∧ w'.cell? (ad.add (n * 12)) = some (.int .i64 (qak l0 n).f0.f0) ∧ w'.cell? ⟨(ad.add (n * 12)).block, (ad.add (n * 12)).off + 1, none⟩ = some (.int .i64 (qak l0 n).f0.f1))
  (go_keep)
  ((fail))
 clear ne0 ne1
 rename_i hHeld
 clear hHeld
 simp only [Exit.then]
 clear hl0 hl1 hfgb hcgb_0 hcgb_1 hcgb_2 hcgb_3 hfge hcge_0 hcge_1
 have hbk := qao (blk_new w3 (.cells #[.int .i64 (qak l0 n).f0.f0, .int .i64 (qak l0 n).f0.f1] 130)); have hb : Below w3.heap.size w3 (w3.alloc (.cells #[.int .i64 (qak l0 n).f0.f0, .int .i64 (qak l0 n).f0.f1] 130)).drew := below_drew ((Below.refl _ _).alloc (Nat.le_refl _) _); generalize hw_ : (w3.alloc (.cells #[.int .i64 (qak l0 n).f0.f0, .int .i64 (qak l0 n).f0.f1] 130)).drew = w4 at hbk hb ⊢; clear hw_; have n_BKgb := qab.mk (qah BKgb.out hb); clear BKgb; have BKgb := n_BKgb; clear n_BKgb; have n_BKge := qab.mk (qah BKge.out hb); clear BKge; have BKge := n_BKge; clear n_BKge; have GEgf : w.heap.size ≤ w3.heap.size := HB.out.size; have n_HB := qab.mk (qag HB.out hb); clear HB; have HB := n_HB; clear n_HB; clear hb; generalize hg_ : w3.heap.size = gf at hbk GEgf ⊢; clear hg_; have BKgf := qab.mk hbk; clear hbk; have hfgf := qac BKgf.out; have hcgf_0 : w4.cell? ⟨gf, 0, none⟩ = some (.int .i64 (qak l0 n).f0.f0) := (qaa BKgf.out 0).trans rfl; have hcgf_1 : w4.cell? ⟨gf, 1, none⟩ = some (.int .i64 (qak l0 n).f0.f1) := (qaa BKgf.out 1).trans rfl; have hfgb := qac BKgb.out; have hcgb_0 : w4.cell? ⟨gb, 0, none⟩ = some (.slice (some ad) l0.length c0) := (qaa BKgb.out 0).trans rfl; have hcgb_1 : w4.cell? ⟨gb, 1, none⟩ = some (.slice A1 l1.length c1) := (qaa BKgb.out 1).trans rfl; have hcgb_2 : w4.cell? ⟨gb, 2, none⟩ = some (v2) := (qaa BKgb.out 2).trans rfl; have hcgb_3 : w4.cell? ⟨gb, 3, none⟩ = some (.int .i64 wp) := (qaa BKgb.out 3).trans rfl
 have hmf : ∀ (fn : Fn) (first cap : Array Value) (w : World), (Instr.makeFunc fn first cap).run Try.prog w = .ok (.func fn first cap) w := fun _ _ _ _ => rfl
 have HI : qab (WInv w w4 gb gf ge #[.slice (some ad) l0.length c0, .slice A1 l1.length c1, v2, .int .i64 wp] #[.int .i64 (qak l0 n).f0.f0, .int .i64 (qak l0 n).f0.f1] (.slice none 0 0) (.slice none 0 0) [] []) := ⟨BKgb.out, BKgf.out, BKge.out, Kd.R_nil _ _ _ _ _, Kd.R_nil _ _ _ _ _, HB.out, GEge⟩
 clear BKgb BKgf BKge HB hfgf hcgf_0 hcgf_1 GEgf
 have hi0 : ∀ (x0 x1 : Value) W, (Instr.index 132 (.agg #[x0, x1]) (.int .i64 0)).run Try.prog W = .ok x0 W := fun _ _ _ => by kernel_rfl
 have hi1 : ∀ (x0 x1 : Value) W, (Instr.index 132 (.agg #[x0, x1]) (.int .i64 1)).run Try.prog W = .ok x1 W := fun _ _ _ => by kernel_rfl
 go_wp2_with fail
 go_loopw [36] (fun s36 wr_ => ∃ (k : Nat) (u0 u1 : Value), k ≤ 2 ∧ s36 = .int .i64 k ∧ (k = 0 → u0 = .slice none 0 0) ∧ (k ≤ 1 → u1 = .slice none 0 0) ∧ qab (WInv w wr_ gb gf ge #[.slice (some ad) l0.length c0, .slice A1 l1.length c1, v2, .int .i64 wp] #[.int .i64 (qak l0 n).f0.f0, .int .i64 (qak l0 n).f0.f1] u0 u1 (if 0 < k then wList (fun h x => leastV l0 l1 wp n h x) (qak l0 n).f0.f0 l1.length else []) (if 1 < k then wList (fun h x => greatestV l0 l1 wp n h x) (qak l0 n).f0.f1 l1.length else []))) (fun s _ => 2 - (intOf s).toNat)
 case atStart => exact ⟨0, _, _, by omega, rfl, fun _ => rfl, fun _ => rfl, HI⟩
 case round =>
  clear HI
  obtain ⟨wO, rfl⟩ : ∃ wo : World, wo = wr := ⟨_, rfl⟩
  obtain ⟨k, u0, u1, hk, rfl, hu0, hu1, HI⟩ := hrel
  obtain rfl | rfl | rfl : k = 0 ∨ k = 1 ∨ k = 2 := by omega
  ·
   obtain rfl := hu0 rfl
   obtain rfl := hu1 (by omega)
   clear hu0 hu1
   have HI : qab (WInv w wO gb gf ge #[.slice (some ad) l0.length c0, .slice A1 l1.length c1, v2, .int .i64 wp] #[.int .i64 (qak l0 n).f0.f0, .int .i64 (qak l0 n).f0.f1] (.slice none 0 0) (.slice none 0 0) [] []) := HI
   have BKgb := HI.out.1
   have BKgf := HI.out.2.1
   have hfgb := qac BKgb; have hcgb_0 : wO.cell? ⟨gb, 0, none⟩ = some (.slice (some ad) l0.length c0) := (qaa BKgb 0).trans rfl; have hcgb_1 : wO.cell? ⟨gb, 1, none⟩ = some (.slice A1 l1.length c1) := (qaa BKgb 1).trans rfl; have hcgb_2 : wO.cell? ⟨gb, 2, none⟩ = some (v2) := (qaa BKgb 2).trans rfl; have hcgb_3 : wO.cell? ⟨gb, 3, none⟩ = some (.int .i64 wp) := (qaa BKgb 3).trans rfl
   have hfgf := qac BKgf; have hcgf_0 : wO.cell? ⟨gf, 0, none⟩ = some (.int .i64 (qak l0 n).f0.f0) := (qaa BKgf 0).trans rfl; have hcgf_1 : wO.cell? ⟨gf, 1, none⟩ = some (.int .i64 (qak l0 n).f0.f1) := (qaa BKgf 1).trans rfl
   clear BKgb BKgf
   go_wp2_with fail
   clear hfgb hcgb_0 hcgb_1 hcgb_2 hcgb_3 hfgf hcgf_0 hcgf_1
   go_loopw [9, 47] (fun s9 s47 wr_ => ∃ (j : Nat) (v_ : Value), j ≤ l1.length ∧ s9 = .int .i64 (wAt (fun h x => leastV l0 l1 wp n h x) (qak l0 n).f0.f0 j) ∧ s47 = .int .i64 j ∧ qab (WInv w wr_ gb gf ge #[.slice (some ad) l0.length c0, .slice A1 l1.length c1, v2, .int .i64 wp] #[.int .i64 (qak l0 n).f0.f0, .int .i64 (qak l0 n).f0.f1] v_ (.slice none 0 0) (wList (fun h x => leastV l0 l1 wp n h x) (qak l0 n).f0.f0 j) [])) (fun _ s _ => l1.length - (intOf s).toNat)
   case atStart => exact ⟨0, _, by omega, rfl, rfl, HI⟩
   case round =>
    clear HI
    obtain ⟨j, v_, hj, rfl, rfl, HI⟩ := hrel
    by_cases hlt : j < l1.length
    ·
     have hlt1 : (j : Int) < l1.length := by omega
     obtain ⟨BKgb, BKgf, BKge, RO, RQ, HBo, GEe⟩ := HI.out
     have HBo' := qab.mk HBo
     clear HBo RO RQ GEe BKgf BKgb BKge
     go_wp2_with fail
     refine (least_calls _ _ _ _ _ _ _ _ _ _ _ _ (Kd.qam HR.out HBo'.out) (Kd.qam HR1.out HBo'.out) h0 h1 h2 (by omega) hlt1).mono ?_
     rintro e w5 ⟨rfl, hb⟩
     have HI5 := qab.mk (HI.out.below hb)
     clear HI HBo' hb
     obtain ⟨BKgb, BKgf, BKge, RO, RQ, HBo, GEe⟩ := HI5.out
     have RO' := qab.mk RO
     have RQ' := qab.mk RQ
     have HBo' := qab.mk HBo
     have GEe' := qab.mk GEe
     clear HBo RO RQ GEe
     have hfge := qac BKge
     have hcge_0 : w5.cell? ⟨ge, 0, none⟩ = some v_ := (qaa BKge 0).trans rfl
     have hcge_1 : w5.cell? ⟨ge, 1, none⟩ = some (.slice none 0 0) := (qaa BKge 1).trans rfl
     have BKge' := qab.mk BKge
     clear BKgb BKgf BKge
     go_wp2_with ((with_reducible refine gate_builtin (b := .append) (xs := #[.tmp 58, .tmp 60]) rfl ?_); at_builtin; refine Kd.R_append (Kd.int .i64) (w0 := w) w.heap.size rfl (.tmp 58) (.tmp 60) 47 3 (.int .i64 0) 8 rfl Try.underlying47 info3 rfl (by decide) (by omega) v_ (wList (fun h x => leastV l0 l1 wp n h x) (qak l0 n).f0.f0 j) (leastV l0 l1 wp n j (wAt (fun h x => leastV l0 l1 wp n h x) (qak l0 n).f0.f0 j)) [.int .i64 (leastV l0 l1 wp n j (wAt (fun h x => leastV l0 l1 wp n h x) (qak l0 n).f0.f0 j))] (fun k => some k ≠ (Value.slice none 0 0).ownBlock) (fun _ => False) rfl rfl ?aP (fun _ hk => hk.elim) ?aF ?aO ?aB ?aS ?aL ?_; (case aP => exact rfl); (case aF => exact fun k hk => Kd.fresh_ok RQ'.out k hk); (case aO => exact RO'.out); (case aB => exact HBo'.out); (case aS => exact HBo'.out.size); (case aL => have hl_ := wList_length (fun h x => leastV l0 l1 wp n h x) (qak l0 n).f0.f0 j; omega); intro v6 w6 ho hB hg hat; obtain ⟨A6, n6, c6, rfl⟩ := R_shape ho; have ho' : Kd.R (Kd.int .i64) 3 w6 w.heap.size (fun k => some k ≠ (Value.slice none 0 0).ownBlock) _ (wList (fun h x => leastV l0 l1 wp n h x) (qak l0 n).f0.f0 j ++ [(leastV l0 l1 wp n j (wAt (fun h x => leastV l0 l1 wp n h x) (qak l0 n).f0.f0 j))]) := ho; have HI6 := qab.mk (HI5.out.put0 ho' hB hg hat); have hfge6 : ∀ i, w6.frozen? ⟨ge, i, none⟩ = false := qac (blk_grown BKge'.out hg (Kd.R_ne RO'.out BKge'.out (by decide))); have hcge6_0 : w6.cell? ⟨ge, 0, none⟩ = some v_ := (qaa (blk_grown BKge'.out hg (Kd.R_ne RO'.out BKge'.out (by decide))) 0).trans rfl; have hcge6_1 : w6.cell? ⟨ge, 1, none⟩ = some (.slice none 0 0) := (qaa (blk_grown BKge'.out hg (Kd.R_ne RO'.out BKge'.out (by decide))) 1).trans rfl; clear ho ho' hB hg hat hfge hcge_0 hcge_1)
     go_roundw
     case rel => ((repeat apply Exists.intro); exact ⟨⟨j + 1, _, by omega, rfl, by go_num, ⟨by rw [wList_succ]; exact HI6.out⟩⟩, rfl⟩)
     case measure => simp [intOf]; omega
    ·
     obtain rfl : j = l1.length := by omega
     go_wp2_with fail
     go_roundw
     case rel => first | exact ⟨1, _, _, by omega, rfl, fun h => by omega, fun _ => rfl, HI⟩ | ((repeat apply Exists.intro); exact ⟨⟨1, _, _, by omega, rfl, fun h => by omega, fun _ => rfl, HI⟩, rfl⟩)
     case measure => simp [intOf]
  ·
   obtain rfl := hu1 (by omega)
   clear hu0 hu1
   have HI : qab (WInv w wO gb gf ge #[.slice (some ad) l0.length c0, .slice A1 l1.length c1, v2, .int .i64 wp] #[.int .i64 (qak l0 n).f0.f0, .int .i64 (qak l0 n).f0.f1] u0 (.slice none 0 0) (wList (fun h x => leastV l0 l1 wp n h x) (qak l0 n).f0.f0 l1.length) []) := HI
   have BKgb := HI.out.1
   have BKgf := HI.out.2.1
   have hfgb := qac BKgb; have hcgb_0 : wO.cell? ⟨gb, 0, none⟩ = some (.slice (some ad) l0.length c0) := (qaa BKgb 0).trans rfl; have hcgb_1 : wO.cell? ⟨gb, 1, none⟩ = some (.slice A1 l1.length c1) := (qaa BKgb 1).trans rfl; have hcgb_2 : wO.cell? ⟨gb, 2, none⟩ = some (v2) := (qaa BKgb 2).trans rfl; have hcgb_3 : wO.cell? ⟨gb, 3, none⟩ = some (.int .i64 wp) := (qaa BKgb 3).trans rfl
   have hfgf := qac BKgf; have hcgf_0 : wO.cell? ⟨gf, 0, none⟩ = some (.int .i64 (qak l0 n).f0.f0) := (qaa BKgf 0).trans rfl; have hcgf_1 : wO.cell? ⟨gf, 1, none⟩ = some (.int .i64 (qak l0 n).f0.f1) := (qaa BKgf 1).trans rfl
   clear BKgb BKgf
   go_wp2_with fail
   clear hfgb hcgb_0 hcgb_1 hcgb_2 hcgb_3 hfgf hcgf_0 hcgf_1
   go_loopw [9, 47] (fun s9 s47 wr_ => ∃ (j : Nat) (v_ : Value), j ≤ l1.length ∧ s9 = .int .i64 (wAt (fun h x => greatestV l0 l1 wp n h x) (qak l0 n).f0.f1 j) ∧ s47 = .int .i64 j ∧ qab (WInv w wr_ gb gf ge #[.slice (some ad) l0.length c0, .slice A1 l1.length c1, v2, .int .i64 wp] #[.int .i64 (qak l0 n).f0.f0, .int .i64 (qak l0 n).f0.f1] u0 v_ (wList (fun h x => leastV l0 l1 wp n h x) (qak l0 n).f0.f0 l1.length) (wList (fun h x => greatestV l0 l1 wp n h x) (qak l0 n).f0.f1 j))) (fun _ s _ => l1.length - (intOf s).toNat)
   case atStart => exact ⟨0, _, by omega, rfl, rfl, HI⟩
   case round =>
    clear HI
    obtain ⟨j, v_, hj, rfl, rfl, HI⟩ := hrel
    by_cases hlt : j < l1.length
    ·
     have hlt1 : (j : Int) < l1.length := by omega
     obtain ⟨BKgb, BKgf, BKge, RO, RQ, HBo, GEe⟩ := HI.out
     have HBo' := qab.mk HBo
     clear HBo RO RQ GEe BKgf BKgb BKge
     go_wp2_with fail
     refine (greatest_calls _ _ _ _ _ _ _ _ _ _ _ _ (Kd.qam HR.out HBo'.out) (Kd.qam HR1.out HBo'.out) h0 h1 h2 (by omega) hlt1).mono ?_
     rintro e w5 ⟨rfl, hb⟩
     have HI5 := qab.mk (HI.out.below hb)
     clear HI HBo' hb
     obtain ⟨BKgb, BKgf, BKge, RO, RQ, HBo, GEe⟩ := HI5.out
     have RO' := qab.mk RO
     have RQ' := qab.mk RQ
     have HBo' := qab.mk HBo
     have GEe' := qab.mk GEe
     clear HBo RO RQ GEe
     have hfge := qac BKge
     have hcge_0 : w5.cell? ⟨ge, 0, none⟩ = some u0 := (qaa BKge 0).trans rfl
     have hcge_1 : w5.cell? ⟨ge, 1, none⟩ = some v_ := (qaa BKge 1).trans rfl
     have BKge' := qab.mk BKge
     clear BKgb BKgf BKge
     go_wp2_with ((with_reducible refine gate_builtin (b := .append) (xs := #[.tmp 58, .tmp 60]) rfl ?_); at_builtin; refine Kd.R_append (Kd.int .i64) (w0 := w) w.heap.size rfl (.tmp 58) (.tmp 60) 47 3 (.int .i64 0) 8 rfl Try.underlying47 info3 rfl (by decide) (by omega) v_ (wList (fun h x => greatestV l0 l1 wp n h x) (qak l0 n).f0.f1 j) (greatestV l0 l1 wp n j (wAt (fun h x => greatestV l0 l1 wp n h x) (qak l0 n).f0.f1 j)) [.int .i64 (greatestV l0 l1 wp n j (wAt (fun h x => greatestV l0 l1 wp n h x) (qak l0 n).f0.f1 j))] (fun k => some k ≠ u0.ownBlock) (fun _ => False) rfl rfl ?aP (fun _ hk => hk.elim) ?aF ?aO ?aB ?aS ?aL ?_; (case aP => exact rfl); (case aF => exact fun k hk => Kd.fresh_ok RO'.out k hk); (case aO => exact RQ'.out); (case aB => exact HBo'.out); (case aS => exact HBo'.out.size); (case aL => have hl_ := wList_length (fun h x => greatestV l0 l1 wp n h x) (qak l0 n).f0.f1 j; omega); intro v6 w6 ho hB hg hat; obtain ⟨A6, n6, c6, rfl⟩ := R_shape ho; have ho' : Kd.R (Kd.int .i64) 3 w6 w.heap.size (fun k => some k ≠ u0.ownBlock) _ (wList (fun h x => greatestV l0 l1 wp n h x) (qak l0 n).f0.f1 j ++ [(greatestV l0 l1 wp n j (wAt (fun h x => greatestV l0 l1 wp n h x) (qak l0 n).f0.f1 j))]) := ho; have HI6 := qab.mk (HI5.out.put1 ho' hB hg hat); have hfge6 : ∀ i, w6.frozen? ⟨ge, i, none⟩ = false := qac (blk_grown BKge'.out hg (Kd.R_ne RQ'.out BKge'.out (by decide))); have hcge6_0 : w6.cell? ⟨ge, 0, none⟩ = some u0 := (qaa (blk_grown BKge'.out hg (Kd.R_ne RQ'.out BKge'.out (by decide))) 0).trans rfl; have hcge6_1 : w6.cell? ⟨ge, 1, none⟩ = some v_ := (qaa (blk_grown BKge'.out hg (Kd.R_ne RQ'.out BKge'.out (by decide))) 1).trans rfl; clear ho ho' hB hg hat hfge hcge_0 hcge_1)
     go_roundw
     case rel => ((repeat apply Exists.intro); exact ⟨⟨j + 1, _, by omega, rfl, by go_num, ⟨by rw [wList_succ]; exact HI6.out⟩⟩, rfl⟩)
     case measure => simp [intOf]; omega
    ·
     obtain rfl : j = l1.length := by omega
     go_wp2_with fail
     go_roundw
     case rel => first | exact ⟨2, _, _, by omega, rfl, fun h => by omega, fun h => by omega, HI⟩ | ((repeat apply Exists.intro); exact ⟨⟨2, _, _, by omega, rfl, fun h => by omega, fun h => by omega, HI⟩, rfl⟩)
     case measure => simp [intOf]
  ·
   have HI : qab (WInv w wO gb gf ge #[.slice (some ad) l0.length c0, .slice A1 l1.length c1, v2, .int .i64 wp] #[.int .i64 (qak l0 n).f0.f0, .int .i64 (qak l0 n).f0.f1] u0 u1 (wList (fun h x => leastV l0 l1 wp n h x) (qak l0 n).f0.f0 l1.length) (wList (fun h x => greatestV l0 l1 wp n h x) (qak l0 n).f0.f1 l1.length)) := HI
   clear hu0 hu1
   have BKgb := HI.out.1
   have hfgb := qac BKgb; have hcgb_0 : wO.cell? ⟨gb, 0, none⟩ = some (.slice (some ad) l0.length c0) := (qaa BKgb 0).trans rfl; have hcgb_1 : wO.cell? ⟨gb, 1, none⟩ = some (.slice A1 l1.length c1) := (qaa BKgb 1).trans rfl; have hcgb_2 : wO.cell? ⟨gb, 2, none⟩ = some (v2) := (qaa BKgb 2).trans rfl; have hcgb_3 : wO.cell? ⟨gb, 3, none⟩ = some (.int .i64 wp) := (qaa BKgb 3).trans rfl
   clear BKgb
   go_wp2_with fail
   clear hfgb hcgb_0 hcgb_1 hcgb_2 hcgb_3
   obtain ⟨A0_, q0, rfl, _, _⟩ := Kd.R_reads HI.out.2.2.2.1
   obtain ⟨A1_, q1, rfl, _, _⟩ := Kd.R_reads HI.out.2.2.2.2.1
   go_loopw [11, 69] (fun s11 s69 wr_ => ∃ (j : Nat), j ≤ l1.length ∧ s69 = .int .i64 j ∧ qab (Kd.R k37 37 wr_ w.heap.size (fun _ => True) s11 ((List.range j).map fun h => ⟨wAt (fun h x => leastV l0 l1 wp n h x) (qak l0 n).f0.f0 (h + 1), wAt (fun h x => greatestV l0 l1 wp n h x) (qak l0 n).f0.f1 (h + 1)⟩)) ∧ qab (WInv w wr_ gb gf ge #[.slice (some ad) l0.length c0, .slice A1 l1.length c1, v2, .int .i64 wp] #[.int .i64 (qak l0 n).f0.f0, .int .i64 (qak l0 n).f0.f1] (.slice A0_ (wList (fun h x => leastV l0 l1 wp n h x) (qak l0 n).f0.f0 l1.length).length q0) (.slice A1_ (wList (fun h x => greatestV l0 l1 wp n h x) (qak l0 n).f0.f1 l1.length).length q1) (wList (fun h x => leastV l0 l1 wp n h x) (qak l0 n).f0.f0 l1.length) (wList (fun h x => greatestV l0 l1 wp n h x) (qak l0 n).f0.f1 l1.length))) (fun _ s _ => l1.length - (intOf s).toNat)
   case atStart => exact ⟨0, by omega, rfl, ⟨Kd.R_nil _ _ _ _ _⟩, HI⟩
   case round =>
    clear HI
    obtain ⟨j, hj, rfl, HO, HI⟩ := hrel
    by_cases hlt : j < l1.length
    ·
     have hj1 : (j : Int) < l1.length := by omega
     have hl0_ := wList_length (fun h x => leastV l0 l1 wp n h x) (qak l0 n).f0.f0 l1.length
     have hl1_ := wList_length (fun h x => greatestV l0 l1 wp n h x) (qak l0 n).f0.f1 l1.length
     have hx0 := rd_wList (fun h x => leastV l0 l1 wp n h x) (qak l0 n).f0.f0 l1.length j hlt
     have hx1 := rd_wList (fun h x => greatestV l0 l1 wp n h x) (qak l0 n).f0.f1 l1.length j hlt
     have HX0 := qab.mk hx0
     have HX1 := qab.mk hx1
     clear hx0 hx1
     generalize hlo : (wList (fun h x => leastV l0 l1 wp n h x) (qak l0 n).f0.f0 l1.length) = lo at *
     generalize hhi : (wList (fun h x => greatestV l0 l1 wp n h x) (qak l0 n).f0.f1 l1.length) = hi at *
     clear hlo hhi
     have jl0 : (j : Int) < lo.length := by omega
     have jl1 : (j : Int) < hi.length := by omega
     obtain ⟨ad0, e0, hy0⟩ := Kd.at_int (Kd.R_reads' HI.out.2.2.2.1).2.2 j (by omega) (by omega)
     obtain ⟨ad1, e1, hy1⟩ := Kd.at_int (Kd.R_reads' HI.out.2.2.2.2.1).2.2 j (by omega) (by omega)
     cases e0
     cases e1
     clear hy0 hy1 hl0_ hl1_
     have keepL : qab (∀ W, WInv w W gb gf ge #[.slice (some ad) l0.length c0, .slice A1 l1.length c1, v2, .int .i64 wp] #[.int .i64 (qak l0 n).f0.f0, .int .i64 (qak l0 n).f0.f1] (.slice (some ad0) lo.length q0) (.slice (some ad1) hi.length q1) lo hi → W.cell? ⟨ge, 0, none⟩ = some (.slice (some ad0) lo.length q0) ∧ W.cell? ⟨ge, 1, none⟩ = some (.slice (some ad1) hi.length q1) ∧ W.cell? (ad0.add j) = some (.int .i64 (rd lo j)) ∧ W.cell? (ad1.add j) = some (.int .i64 (rd hi j)) ∧ qab (WInv w W gb gf ge #[.slice (some ad) l0.length c0, .slice A1 l1.length c1, v2, .int .i64 wp] #[.int .i64 (qak l0 n).f0.f0, .int .i64 (qak l0 n).f0.f1] (.slice (some ad0) lo.length q0) (.slice (some ad1) hi.length q1) lo hi)) := ⟨by
      intro W h
      obtain ⟨ad0', e0, hy0⟩ := Kd.at_int (Kd.R_reads' h.2.2.2.1).2.2 j (by omega) (by omega)
      obtain ⟨ad1', e1, hy1⟩ := Kd.at_int (Kd.R_reads' h.2.2.2.2.1).2.2 j (by omega) (by omega)
      cases e0
      cases e1
      exact ⟨(qaa h.2.2.1 0).trans rfl, (qaa h.2.2.1 1).trans rfl, hy0, hy1, ⟨h⟩⟩⟩
     go_wp2_with fail
     go_region_held3 (fun w' => w'.cell? ⟨ge, 0, none⟩ = some (.slice (some ad0) lo.length q0) ∧ w'.cell? ⟨ge, 1, none⟩ = some (.slice (some ad1) hi.length q1) ∧ w'.cell? (ad0.add j) = some (.int .i64 (rd lo j)) ∧ w'.cell? (ad1.add j) = some (.int .i64 (rd hi j)) ∧ qab (WInv w w' gb gf ge #[.slice (some ad) l0.length c0, .slice A1 l1.length c1, v2, .int .i64 wp] #[.int .i64 (qak l0 n).f0.f0, .int .i64 (qak l0 n).f0.f1] (.slice (some ad0) lo.length q0) (.slice (some ad1) hi.length q1) lo hi))
      (first | exact keepL.out _ HI7.out | exact keepL.out _ (HI.out.below (below_drew (Below.refl _ _))) | exact keepL.out _ (HI.out.below (below_drew ((Below.refl _ _).alloc (Nat.le_refl _) _))))
      ((refine Kd.R_append_step k37 (w0 := w) (W := wr.drew) w.heap.size (by rfl) (.tmp 72) (.tmp 84) 23 37 (.agg #[.int .i64 0, .int .i64 0]) 16 (by rfl) Try.underlying23 info37 rfl (by decide) (by omega) u11 _ (⟨rd lo j, rd hi j⟩ : S37) [.int .i64 (rd lo j), .int .i64 (rd hi j)] (fun _ => True) (fun _ => False) (by rfl) (by rfl) (k37_mkM _ _ _ _) (fun _ hk => hk.elim) (fun _ _ => trivial) (Kd.R_drew HO.out) (below_drew HI.out.2.2.2.2.2.1) HI.out.2.2.2.2.2.1.size (by simp; omega) ?_; intro v7 w7 ho hB hg hat; obtain ⟨A7, n7, c7, rfl⟩ := R_shape ho; have HI7 := qab.mk (WInv.grown37 (HI.out.below (below_drew (Below.refl _ _))) (Kd.R_drew HO.out) hg hB)))
     go_wp2
     go_roundw
     case rel =>
      have ho2 : Kd.R k37 37 w7 w.heap.size (fun _ => True) (.slice A7 n7 c7) ((List.range (j + 1)).map fun h => ⟨wAt (fun h x => leastV l0 l1 wp n h x) (qak l0 n).f0.f0 (h + 1), wAt (fun h x => greatestV l0 l1 wp n h x) (qak l0 n).f0.f1 (h + 1)⟩) := by
       rw [List.range_succ, List.map_append, List.map_singleton, ← HX0.out, ← HX1.out]
       exact ho
      first | exact ⟨j + 1, by omega, by go_num, ⟨ho2⟩, HI7⟩ | ((repeat apply Exists.intro); exact ⟨⟨j + 1, by omega, by go_num, ⟨ho2⟩, HI7⟩, rfl⟩)
     case measure => simp [intOf]; omega
    ·
     obtain rfl : j = l1.length := by omega
     go_wp2_with fail
     go_ret
     exact ⟨_, rfl, HO.out, HI.out.2.2.2.2.2.1⟩
end Go.Proofs.Ytipphcjgdebecaa.PA
namespace Go.Proofs.Ytipphcjgdebecaa.PA
open Go.RowKit Go.Proofs.YtipphcjgdebecaaW.PrintWords Go.Proofs.YtipphcjgdebecaaW.PrintLast Go.Proofs.YtipphcjgdebecaaW.PrintMore
attribute [local go_sem] max2_int min2_int max_two min_two max_three min_three max_four min_four
attribute [local go_sem] Oper.semAt_some
def loopsOf (f : Int) : Nat → List Int
 | 0 => []
 | k + 1 => if bitB f k then loopsOf f k ++ [(k : Int)] else loopsOf f k
theorem loopsOf_yes (f : Int) (k : Nat) (h : bitB f k = true) : loopsOf f (k + 1) = loopsOf f k ++ [(k : Int)] := by rw [loopsOf, if_pos h]
theorem loopsOf_no (f : Int) (k : Nat) (h : bitB f k = false) : loopsOf f (k + 1) = loopsOf f k := by rw [loopsOf, if_neg (by simp [h])]
theorem loopsOf_pre (f : Int) (k n : Nat) (h : k ≤ n) : loopsOf f k <+: loopsOf f n := by
 induction n with
 | zero =>
  obtain rfl : k = 0 := by omega
  exact List.prefix_refl _
 | succ n ih =>
  rcases Nat.lt_or_ge k (n + 1) with hk | hk
  ·
   refine (ih (by omega)).trans ?_
   cases hb : bitB f n
   ·
    rw [loopsOf_no f n hb]; exact List.prefix_refl _
   ·
    rw [loopsOf_yes f n hb]; exact List.prefix_append _ _
  ·
   obtain rfl : k = n + 1 := by omega
   exact List.prefix_refl _
theorem loopsOf_lt (f : Int) (k : Nat) (hk : k < 5) (h : bitB f k = true) : (loopsOf f k).length < (loopsOf f 5).length := by
 have h1 := (loopsOf_pre f (k + 1) 5 (by omega)).length_le
 rw [loopsOf_yes f k h] at h1
 simp at h1
 omega
def KeptAt (Bn : Nat) (A B : World) : Prop := B.heap[Bn]? = A.heap[Bn]?
set_option maxRecDepth 100000 in
set_option maxHeartbeats 1000000 in
theorem loops1_in (F : Fence) (n : Nat) (h6 : F.fn 97) (hro : F.round = none) (hn : 1 ≤ n) (l Bn : Nat) (f : Int) (h0f : 0 ≤ f) (J Jx : List Int → World → Prop)
  (hY : ∀ pre x W, x ∈ loopsOf f 5 → J pre W → pre.length < (loopsOf f 5).length → YieldAt F (n - 1) Try.prog l #[.int .i64 x] W fun e W' =>
   (e = .returned (.bool true) ∧ J (pre ++ [x]) W' ∧ KeptAt Bn W W') ∨ (e = .returned (.bool false) ∧ Jx (pre ++ [x]) W'))
  (W : World) (hBn : W.heap[Bn]? = some (.cells #[.int .i64 f] 3 (0, 0))) (h0 : J [] W) :
  CallsIn F n Try.prog 97 #[.func (.yield l) #[] #[], .pointer (some ⟨Bn, 0, none⟩)] W fun e W' => (∃ v, e = .returned v) ∧
   ((∃ ys, ys = loopsOf f 5 ∧ J ys W') ∨ (∃ pre, pre <+: loopsOf f 5 ∧ Jx pre W')) := by
 refine callsIn_of_wp Try.func97 rfl h6 ?_ hro
 simp only [Try.ntmps97, List.size_toArray, List.length_cons, List.length_nil, Nat.reduceAdd, Nat.reduceSub, Array.replicate_succ, Array.replicate_zero, List.push_toArray, List.append_toArray, List.nil_append, List.cons_append]
 gi_wp2
 gi_loopw [4] (fun s wr => ∃ (k : Nat), k ≤ 5 ∧ s = .int .i64 k ∧ qab (wr.heap[Bn]? = some (.cells #[.int .i64 f] 3 (0, 0))) ∧ qab (J (loopsOf f k) wr))
  (fun s _ => 5 - (intOf s).toNat)
 case atStart =>
  exact ⟨0, by omega, rfl, ⟨hBn⟩, ⟨h0⟩⟩
 case round =>
  obtain ⟨k, hk, rfl, BK, HJ⟩ := hrel
  have hc : wr.cell? ⟨Bn, 0, none⟩ = some (.int .i64 f) := (qaa BK.out 0).trans rfl
  by_cases hlt : k < 5
  ·
   cases hb : bitB f k with
   | false =>
    have hb1 : (bits .and .i64 (f / 2 ^ k) 1 == 1) = false := by
     have h := hb
     unfold bitB at h
     rwa [Int.toNat_natCast, show min k 64 = k from by omega] at h
    have HB1 := qab.mk hb
    clear hb
    gi_wp2
    refine ⟨fun _ h => (by cases h), ?_⟩
    gi_wp2
    go_roundw
    case rel => exact ⟨k + 1, by omega, by go_num, BK, ⟨by rw [loopsOf_no f k HB1.out]; exact HJ.out⟩⟩
    case measure => simp [intOf]; omega
   | true =>
    have hb1 : (bits .and .i64 (f / 2 ^ k) 1 == 1) = true := by
     have h := hb
     unfold bitB at h
     rwa [Int.toNat_natCast, show min k 64 = k from by omega] at h
    have HB1 := qab.mk hb
    clear hb
    obtain ⟨fn, tmps, assign, body, hy, hR⟩ := hY (loopsOf f k) k wr ((loopsOf_pre f (k + 1) 5 (by omega)).subset (by rw [loopsOf_yes f k HB1.out]; simp)) HJ.out (loopsOf_lt f k hlt HB1.out)
    gi_wp2
    try rw [hy]
    refine hR.mono ?_
    rintro e W3 (⟨rfl, hJ3, hk3⟩ | ⟨rfl, hJx3⟩)
    ·
     have BK3 := qab.mk (Eq.trans hk3 BK.out)
     have HJ3 := qab.mk hJ3
     clear hJ3 hk3
     gi_wp2
     go_roundw
     case rel => exact ⟨k + 1, by omega, by go_num, BK3, ⟨by rw [loopsOf_yes f k HB1.out]; exact HJ3.out⟩⟩
     case measure => simp [intOf]; omega
    ·
     have HJ3 := qab.mk hJx3
     clear hJx3
     gi_wp2
     refine bodyPost_ret (results_none rfl _ _ _) rfl ?_
     exact ⟨⟨_, rfl⟩, .inr ⟨loopsOf f k ++ [(k : Int)], by rw [← loopsOf_yes f k HB1.out]; exact loopsOf_pre f (k + 1) 5 (by omega), HJ3.out⟩⟩
  ·
   obtain rfl : k = 5 := by omega
   gi_wp2
   go_end0
   exact ⟨⟨_, rfl⟩, .inl ⟨_, rfl, HJ.out⟩⟩
end Go.Proofs.Ytipphcjgdebecaa.PA
namespace Go.Proofs.Ytipphcjgdebecaa.PA
open Go.RowKit Go.Proofs.YtipphcjgdebecaaW.PrintWords Go.Proofs.YtipphcjgdebecaaW.PrintLast Go.Proofs.YtipphcjgdebecaaW.PrintMore
attribute [local go_sem] max2_int min2_int max_two min_two max_three min_three max_four min_four
structure Sp where
 p : Int
 h : Int
 r : Int
 deriving DecidableEq
def spV (s : Sp) : Value := .agg #[.int .i64 s.p, .int .i64 s.h, .int .i64 s.r]
def hourV (l0 : List S39) (l2 : List (List Int)) (s : Sp) (i : Int) : Int := wrap64 (wrap64 (s.h + rd (rd_L1 l2 s.p) (i + 1)) + (qak l0 i).f7.f1)
def nextV (l0 : List S39) (l2 : List (List Int)) (s : Sp) (i : Int) : Sp := ⟨i + 1, hourV l0 l2 s i, bits .andNot .i64 s.r (wrap64 (2 ^ i.toNat))⟩
theorem spV_eq (p h r : Int) : spV ⟨p, h, r⟩ = .agg #[.int .i64 p, .int .i64 h, .int .i64 r] := rfl
theorem lateIface (i : Int) (W : World) : (Instr.makeInterface 137 (.agg #[.int .i64 i])).run Try.prog W = .ok (.iface 137 (.agg #[.int .i64 i])) W := by kernel_rfl
set_option maxRecDepth 100000 in
set_option maxHeartbeats 4000000 in
theorem repairs_calls (A0 : Option Addr) (c0 : Nat) (l0 : List S39) (v1 : Value) (A2 : Option Addr) (c2 : Nat) (l2 : List (List Int)) (wp : Int) (s : Sp) (i : Int) (A3 : Option Addr) (c3 : Nat) (D : List Int) (w : World)
  (hr0 : Kd.C k39 w A0 l0.length l0) (hr2 : Kd.C (Kd.slice 3 (Kd.int .i64)) w A2 l2.length l2) (hr3 : Kd.C (Kd.int .i64) w A3 D.length D)
  (p0 : 0 ≤ s.p) (p1 : s.p < l2.length) (i0 : 0 ≤ i) (i1 : i < l0.length) (i2 : i + 1 < (rd_L1 l2 s.p).length) (i3 : i < D.length) (i4 : i < 60) :
  Calls Try.prog 104 #[.agg #[.slice A0 l0.length c0, v1, .slice A2 l2.length c2, .int .i64 wp], spV s, .int .i64 i, .slice A3 D.length c3] w fun e w' =>
   (if hourV l0 l2 s i > rd D i then e = .panicked [{ v := .iface 137 (.agg #[.int .i64 i]), recovered := false }] else e = .returned (.tuple #[spV (nextV l0 l2 s i), .int .i64 (wrap64 (rd D i - hourV l0 l2 s i))])) ∧ Below w.heap.size w w' := by
 have hu26 := Try.underlying26
 have hu99 := Try.underlying99
 have hu39 := Try.underlying39
 have hu37 := Try.underlying37
 have hu123 := Try.underlying123
 have hli := lateIface
 obtain ⟨p, h, r⟩ := s
 dsimp only at p0 p1 i2
 obtain ⟨ad, e, hl0, hl1, hl2, hl3, hl4, hl5, hl6, hl7, hl8, hl9, hl10, hl11⟩ := at_T39 hr0 i i0 i1
 cases e
 clear hl0 hl1 hl2 hl3 hl4 hl5 hl6 hl7 hl8 hl9 hl10
 obtain ⟨ad2, A4, c4, e, hrow, hl4, hC⟩ := at_L1 hr2 p p0 p1
 cases e
 obtain ⟨ad4, e, hx⟩ := Kd.at_int hC (i + 1) (by omega) i2
 cases e
 obtain ⟨ad3, e, hd⟩ := Kd.at_int hr3 i i0 i3
 cases e
 clear hC hr0 hr2 hr3
 obtain ⟨n, rfl⟩ := Int.eq_ofNat_of_zero_le i0
 obtain ⟨m, rfl⟩ := Int.eq_ofNat_of_zero_le p0
 simp only [Int.toNat_natCast] at hl11 hrow hd
 obtain ⟨row, hrw⟩ : ∃ row, row = rd_L1 l2 m := ⟨_, rfl⟩
 obtain ⟨hV, hVe⟩ : ∃ hV, hV = hourV l0 l2 ⟨m, h, r⟩ n := ⟨_, rfl⟩
 have HV := qab.mk hVe
 unfold hourV at hVe
 dsimp only at hVe
 rw [← hrw] at hrow hx hl4 i2 hVe
 have HB := qab.mk (Below.refl w.heap.size w)
 have hx1 : w.cell? ⟨ad4.block, ad4.off + (n + 1), none⟩ = some (.int .i64 (rd row (n + 1))) := by show w.cell? (ad4.add (n + 1)) = _; rw [show (n + 1 : Nat) = ((n : Int) + 1).toNat from by omega]; exact hx
 clear hx
 have hw1 : IntKind.i64.wrap ((n : Int) + 1) = (n : Int) + 1 := by rw [i64_w]; unfold wrap64; omega
 have hw2 : (0 : Int) ≤ (n : Int) + 1 := by omega
 by_cases hlate : hV > rd D n
 ·
  rw [← HV.out]
  simp only [if_pos hlate]
  simp only [spV_eq]
  have hlt : hV > rd D n := hlate
  clear hlate
  have H2 := qab.mk hrw
  clear hrw
  go_enter Try.func104, Try.ntmps104
  go_wp2_with (first | ((with_reducible refine qar (N := 4) rfl ?_); refine qap ?hg (N := 4) ?hd (cs := #[.slice (some ad) l0.length c0, v1, .slice (some ad2) l2.length c2, .int .i64 wp]) (t := 99) ?hr ?_; (case hd => rfl); (case hg => rfl); (case hr => first | (go_simp; done) | (go_simp; rfl)); intro gb hg_gb w2 hbox hb; have BKgb := qab.mk hbox; have n_HB := qab.mk (qag HB.out hb); have GEgb : w.heap.size ≤ gb := (by rw [hg_gb]; exact HB.out.size); clear HB; have HB := n_HB; clear n_HB; have hfgb := qac BKgb.out; have hcgb_0 : w2.cell? ⟨gb, 0, none⟩ = some (.slice (some ad) l0.length c0) := (qaa BKgb.out 0).trans rfl; have hcgb_1 : w2.cell? ⟨gb, 1, none⟩ = some (v1) := (qaa BKgb.out 1).trans rfl; have hcgb_2 : w2.cell? ⟨gb, 2, none⟩ = some (.slice (some ad2) l2.length c2) := (qaa BKgb.out 2).trans rfl; have hcgb_3 : w2.cell? ⟨gb, 3, none⟩ = some (.int .i64 wp) := (qaa BKgb.out 3).trans rfl; clear hbox hb hg_gb) | ((with_reducible refine qar (N := 5) rfl ?_); refine qap ?hg (N := 5) ?hd (cs := #[.int .i64 m, .int .i64 h, .int .i64 r]) (t := 123) ?hr ?_; (case hd => rfl); (case hg => rfl); (case hr => first | (go_simp; done) | (go_simp; rfl)); intro gs hg_gs w3 hbox hb; have BKgs := qab.mk hbox; have n_BKgb := qab.mk (qah BKgb.out hb); clear BKgb; have BKgb := n_BKgb; clear n_BKgb; have n_HB := qab.mk (qag HB.out hb); have GEgs : w.heap.size ≤ gs := (by rw [hg_gs]; exact HB.out.size); clear HB; have HB := n_HB; clear n_HB; have hfgs := qac BKgs.out; have hcgs_0 : w3.cell? ⟨gs, 0, none⟩ = some (.int .i64 m) := (qaa BKgs.out 0).trans rfl; have hcgs_1 : w3.cell? ⟨gs, 1, none⟩ = some (.int .i64 h) := (qaa BKgs.out 1).trans rfl; have hcgs_2 : w3.cell? ⟨gs, 2, none⟩ = some (.int .i64 r) := (qaa BKgs.out 2).trans rfl; clear hbox hb hg_gs))
  clear hfgb hcgb_0 hcgb_1 hcgb_2 hcgb_3 hfgs hcgs_0 hcgs_1 hcgs_2
  have hbk := blk_new w3 (.cells #[.int .i64 0, .int .i64 0, .int .i64 0] 123); have hb : Below w3.heap.size w3 (w3.alloc (.cells #[.int .i64 0, .int .i64 0, .int .i64 0] 123)) := (Below.refl _ _).alloc (Nat.le_refl _) _; generalize hw_ : (w3.alloc (.cells #[.int .i64 0, .int .i64 0, .int .i64 0] 123)) = w4 at hbk hb ⊢; clear hw_; have n_BKgb := qab.mk (qah BKgb.out hb); clear BKgb; have BKgb := n_BKgb; clear n_BKgb; have n_BKgs := qab.mk (qah BKgs.out hb); clear BKgs; have BKgs := n_BKgs; clear n_BKgs; have GEgr : w.heap.size ≤ w3.heap.size := HB.out.size; have n_HB := qab.mk (qag HB.out hb); clear HB; have HB := n_HB; clear n_HB; clear hb; generalize hg_ : w3.heap.size = gr at hbk GEgr ⊢; clear hg_; have BKgr := qab.mk hbk; clear hbk; have hfgr := qac BKgr.out; have hcgr_0 : w4.cell? ⟨gr, 0, none⟩ = some (.int .i64 0) := (qaa BKgr.out 0).trans rfl; have hcgr_1 : w4.cell? ⟨gr, 1, none⟩ = some (.int .i64 0) := (qaa BKgr.out 1).trans rfl; have hcgr_2 : w4.cell? ⟨gr, 2, none⟩ = some (.int .i64 0) := (qaa BKgr.out 2).trans rfl; have hfgb := qac BKgb.out; have hcgb_0 : w4.cell? ⟨gb, 0, none⟩ = some (.slice (some ad) l0.length c0) := (qaa BKgb.out 0).trans rfl; have hcgb_1 : w4.cell? ⟨gb, 1, none⟩ = some (v1) := (qaa BKgb.out 1).trans rfl; have hcgb_2 : w4.cell? ⟨gb, 2, none⟩ = some (.slice (some ad2) l2.length c2) := (qaa BKgb.out 2).trans rfl; have hcgb_3 : w4.cell? ⟨gb, 3, none⟩ = some (.int .i64 wp) := (qaa BKgb.out 3).trans rfl; have hfgs := qac BKgs.out; have hcgs_0 : w4.cell? ⟨gs, 0, none⟩ = some (.int .i64 m) := (qaa BKgs.out 0).trans rfl; have hcgs_1 : w4.cell? ⟨gs, 1, none⟩ = some (.int .i64 h) := (qaa BKgs.out 1).trans rfl; have hcgs_2 : w4.cell? ⟨gs, 2, none⟩ = some (.int .i64 r) := (qaa BKgs.out 2).trans rfl; replace hl11 := (HB.out.cell (World.block_lt_of_cell? w _ hl11)).trans hl11; replace hrow := (HB.out.cell (World.block_lt_of_cell? w _ hrow)).trans hrow; replace hd := (HB.out.cell (World.block_lt_of_cell? w _ hd)).trans hd; replace hx1 := (HB.out.cell (World.block_lt_of_cell? w _ hx1)).trans hx1
  have ne0 := World.new_ne w4 _ hl11
  have ne1 := World.new_ne w4 _ hrow
  have ne2 := World.new_ne w4 _ hd
  have ne3 := World.new_ne w4 _ hx1
  clear BKgb BKgs BKgr
  go_region_held3 (fun w' => w'.cell? ⟨gb, 0, none⟩ = some (.slice (some ad) l0.length c0) ∧ w'.cell? ⟨gb, 2, none⟩ = some (.slice (some ad2) l2.length c2) ∧ w'.cell? ⟨gs, 0, none⟩ = some (.int .i64 m) ∧ w'.cell? ⟨gs, 1, none⟩ = some (.int .i64 h) ∧ w'.cell? ⟨(ad.add (n * 12)).block, (ad.add (n * 12)).off + 11, none⟩ = some (.int .i64 (qak l0 n).f7.f1) ∧ w'.cell? (ad2.add m) = some (.slice (some ad4) row.length c4) ∧ w'.cell? ⟨ad4.block, ad4.off + (n + 1), none⟩ = some (.int .i64 (rd row (n + 1))))
   (go_keep)
   ((fail))
  rename_i hHeld
  clear hHeld
  simp only [Exit.then]
  have hlt2 : wrap64 (wrap64 (h + rd row (n + 1)) + (qak l0 n).f7.f1) > rd D n := by rw [← hVe]; exact hlt
  go_wp2_with fail
  exact ⟨rfl, rfl, below_drew HB.out⟩
 ·
  rw [← HV.out]
  simp only [if_neg hlate, nextV]
  rw [← HV.out]
  simp only [spV_eq]
  have hlt : ¬ hV > rd D n := hlate
  clear hlate
  have H2 := qab.mk hrw
  clear hrw
  go_enter Try.func104, Try.ntmps104
  go_wp2_with (first | ((with_reducible refine qar (N := 4) rfl ?_); refine qap ?hg (N := 4) ?hd (cs := #[.slice (some ad) l0.length c0, v1, .slice (some ad2) l2.length c2, .int .i64 wp]) (t := 99) ?hr ?_; (case hd => rfl); (case hg => rfl); (case hr => first | (go_simp; done) | (go_simp; rfl)); intro gb hg_gb w2 hbox hb; have BKgb := qab.mk hbox; have n_HB := qab.mk (qag HB.out hb); have GEgb : w.heap.size ≤ gb := (by rw [hg_gb]; exact HB.out.size); clear HB; have HB := n_HB; clear n_HB; have hfgb := qac BKgb.out; have hcgb_0 : w2.cell? ⟨gb, 0, none⟩ = some (.slice (some ad) l0.length c0) := (qaa BKgb.out 0).trans rfl; have hcgb_1 : w2.cell? ⟨gb, 1, none⟩ = some (v1) := (qaa BKgb.out 1).trans rfl; have hcgb_2 : w2.cell? ⟨gb, 2, none⟩ = some (.slice (some ad2) l2.length c2) := (qaa BKgb.out 2).trans rfl; have hcgb_3 : w2.cell? ⟨gb, 3, none⟩ = some (.int .i64 wp) := (qaa BKgb.out 3).trans rfl; clear hbox hb hg_gb) | ((with_reducible refine qar (N := 5) rfl ?_); refine qap ?hg (N := 5) ?hd (cs := #[.int .i64 m, .int .i64 h, .int .i64 r]) (t := 123) ?hr ?_; (case hd => rfl); (case hg => rfl); (case hr => first | (go_simp; done) | (go_simp; rfl)); intro gs hg_gs w3 hbox hb; have BKgs := qab.mk hbox; have n_BKgb := qab.mk (qah BKgb.out hb); clear BKgb; have BKgb := n_BKgb; clear n_BKgb; have n_HB := qab.mk (qag HB.out hb); have GEgs : w.heap.size ≤ gs := (by rw [hg_gs]; exact HB.out.size); clear HB; have HB := n_HB; clear n_HB; have hfgs := qac BKgs.out; have hcgs_0 : w3.cell? ⟨gs, 0, none⟩ = some (.int .i64 m) := (qaa BKgs.out 0).trans rfl; have hcgs_1 : w3.cell? ⟨gs, 1, none⟩ = some (.int .i64 h) := (qaa BKgs.out 1).trans rfl; have hcgs_2 : w3.cell? ⟨gs, 2, none⟩ = some (.int .i64 r) := (qaa BKgs.out 2).trans rfl; clear hbox hb hg_gs))
  clear hfgb hcgb_0 hcgb_1 hcgb_2 hcgb_3 hfgs hcgs_0 hcgs_1 hcgs_2
  have lt3 : (ad3.add n).block < w.heap.size := World.block_lt_of_cell? w _ hd
  have ltg := blk_lt BKgs.out
  have hbk := blk_new w3 (.cells #[.int .i64 0, .int .i64 0, .int .i64 0] 123); have hb : Below w3.heap.size w3 (w3.alloc (.cells #[.int .i64 0, .int .i64 0, .int .i64 0] 123)) := (Below.refl _ _).alloc (Nat.le_refl _) _; generalize hw_ : (w3.alloc (.cells #[.int .i64 0, .int .i64 0, .int .i64 0] 123)) = w4 at hbk hb ⊢; clear hw_; have n_BKgb := qab.mk (qah BKgb.out hb); clear BKgb; have BKgb := n_BKgb; clear n_BKgb; have n_BKgs := qab.mk (qah BKgs.out hb); clear BKgs; have BKgs := n_BKgs; clear n_BKgs; have GEgr : w.heap.size ≤ w3.heap.size := HB.out.size; have n_HB := qab.mk (qag HB.out hb); clear HB; have HB := n_HB; clear n_HB; clear hb; generalize hg_ : w3.heap.size = gr at hbk GEgr ⊢; have EQgr := qab.mk hg_; clear hg_; have BKgr := qab.mk hbk; clear hbk; have hfgr := qac BKgr.out; have hcgr_0 : w4.cell? ⟨gr, 0, none⟩ = some (.int .i64 0) := (qaa BKgr.out 0).trans rfl; have hcgr_1 : w4.cell? ⟨gr, 1, none⟩ = some (.int .i64 0) := (qaa BKgr.out 1).trans rfl; have hcgr_2 : w4.cell? ⟨gr, 2, none⟩ = some (.int .i64 0) := (qaa BKgr.out 2).trans rfl; have hfgb := qac BKgb.out; have hcgb_0 : w4.cell? ⟨gb, 0, none⟩ = some (.slice (some ad) l0.length c0) := (qaa BKgb.out 0).trans rfl; have hcgb_1 : w4.cell? ⟨gb, 1, none⟩ = some (v1) := (qaa BKgb.out 1).trans rfl; have hcgb_2 : w4.cell? ⟨gb, 2, none⟩ = some (.slice (some ad2) l2.length c2) := (qaa BKgb.out 2).trans rfl; have hcgb_3 : w4.cell? ⟨gb, 3, none⟩ = some (.int .i64 wp) := (qaa BKgb.out 3).trans rfl; have hfgs := qac BKgs.out; have hcgs_0 : w4.cell? ⟨gs, 0, none⟩ = some (.int .i64 m) := (qaa BKgs.out 0).trans rfl; have hcgs_1 : w4.cell? ⟨gs, 1, none⟩ = some (.int .i64 h) := (qaa BKgs.out 1).trans rfl; have hcgs_2 : w4.cell? ⟨gs, 2, none⟩ = some (.int .i64 r) := (qaa BKgs.out 2).trans rfl; replace hl11 := (HB.out.cell (World.block_lt_of_cell? w _ hl11)).trans hl11; replace hrow := (HB.out.cell (World.block_lt_of_cell? w _ hrow)).trans hrow; replace hd := (HB.out.cell (World.block_lt_of_cell? w _ hd)).trans hd; replace hx1 := (HB.out.cell (World.block_lt_of_cell? w _ hx1)).trans hx1
  have ne9 : gr ≠ (ad3.add n).block := by omega
  have ne8 : gr ≠ gs := by have := EQgr.out; omega
  have ne8s := ne8.symm
  have ne9s := ne9.symm
  have ne0 := World.new_ne w4 _ hl11
  have ne1 := World.new_ne w4 _ hrow
  have ne2 := World.new_ne w4 _ hd
  have ne3 := World.new_ne w4 _ hx1
  go_region_held3 (fun w' => w'.cell? ⟨gb, 0, none⟩ = some (.slice (some ad) l0.length c0) ∧ w'.cell? ⟨gb, 2, none⟩ = some (.slice (some ad2) l2.length c2) ∧ w'.cell? ⟨gs, 0, none⟩ = some (.int .i64 m) ∧ w'.cell? ⟨gs, 1, none⟩ = some (.int .i64 h) ∧ w'.cell? ⟨(ad.add (n * 12)).block, (ad.add (n * 12)).off + 11, none⟩ = some (.int .i64 (qak l0 n).f7.f1) ∧ w'.cell? (ad2.add m) = some (.slice (some ad4) row.length c4) ∧ w'.cell? ⟨ad4.block, ad4.off + (n + 1), none⟩ = some (.int .i64 (rd row (n + 1))))
   (go_keep)
   ((fail))
  rename_i hHeld
  clear hHeld
  simp only [Exit.then]
  have hlt2 : ¬ wrap64 (wrap64 (h + rd row (n + 1)) + (qak l0 n).f7.f1) > rd D n := by rw [← hVe]; omega
  go_wp2_with fail
  go_region_held3 (fun w' => w'.cell? ⟨gs, 2, none⟩ = some (.int .i64 r) ∧ w'.cell? (ad3.add n) = some (.int .i64 (rd D n)))
   (go_keep)
   ((fail))
  rename_i hHeld2
  clear hHeld2
  simp only [Exit.then]
  go_wp2_with fail
  refine bodyPost_ret (results_ct rfl _ _ gr 123 _ (0, 0) _ rfl (by first | exact qao (blk_set (blk_set (blk_set BKgr.out 0 _) 1 _) 2 _) | exact blk_set (blk_set (blk_set BKgr.out 0 _) 1 _) 2 _) hu123 rfl (by kernel_rfl)) rfl ?_
  refine ⟨?_, ?_⟩
  ·
   simp only [i64_w, hVe, hw1]
   rfl
  ·
   exact below_drew (below_drew (qai (qai (qai HB.out (by omega)) (by omega)) (by omega)))
end Go.Proofs.Ytipphcjgdebecaa.PA
namespace Go.Proofs.Ytipphcjgdebecaa.PA
open Go.RowKit Go.Proofs.YtipphcjgdebecaaW.PrintWords Go.Proofs.YtipphcjgdebecaaW.PrintLast Go.Proofs.YtipphcjgdebecaaW.PrintMore
attribute [local go_sem] max2_int min2_int max_two min_two max_three min_three max_four min_four
structure KB (T : Nat → Prop) (w w' : World) : Prop where
 os : w'.os = w.os
 tape : w'.tape = w.tape
 output : w'.output = w.output
 size : w.heap.size ≤ w'.heap.size
 block : ∀ k, k < w.heap.size → ¬ T k → w'.heap[k]? = w.heap[k]?
section
variable {T T' : Nat → Prop} {w W W2 : World} {g : Nat} {o : Obj}
theorem KB.refl (T : Nat → Prop) (w : World) : KB T w w := ⟨rfl, rfl, rfl, Nat.le_refl _, fun _ _ _ => rfl⟩
theorem KB.of_below (h : Below w.heap.size w W) (T : Nat → Prop) : KB T w W := ⟨h.os, h.tape, h.output, h.size, fun k hk _ => h.block k hk⟩
theorem KB.of_grown {row : Option Nat} (h : w.grownBy W row) : KB (fun k => row = some k) w W := ⟨h.os, h.tape, h.output, h.size, fun k hk hn => h.block k hk (fun e => hn e.symm)⟩
theorem KB.mono (h : KB T w W) (hs : ∀ k, T k → T' k) : KB T' w W := ⟨h.os, h.tape, h.output, h.size, fun k hk hn => h.block k hk (fun x => hn (hs k x))⟩
theorem KB.trans (h : KB T w W) (k : KB T' W W2) (hs : ∀ k, T' k → T k ∨ w.heap.size ≤ k) : KB T w W2 :=
 ⟨k.os.trans h.os, k.tape.trans h.tape, k.output.trans h.output, Nat.le_trans h.size k.size, fun i hi hn => (k.block i (Nat.lt_of_lt_of_le hi h.size) (fun x => (hs i x).elim hn (fun y => by omega))).trans (h.block i hi hn)⟩
theorem KB.then_below (h : KB T w W) (k : Below W.heap.size W W2) : KB T w W2 := h.trans (KB.of_below k (fun _ => False)) (fun _ x => x.elim)
theorem KB.set (h : KB T w W) {p : Addr} (hp : T p.block ∨ w.heap.size ≤ p.block) (u : Value) : KB T w (W.setCell p u) :=
 h.trans (T' := fun k => k = p.block) ⟨rfl, rfl, rfl, by simp, fun k _ hn => Below.heap_setCell W p u k hn⟩ (fun k e => e ▸ hp)
theorem KB.blk (h : KB T w W) (hb : w.heap[g]? = some o) (hn : ¬ T g) : W.heap[g]? = some o := (h.block g (blk_lt hb) hn).trans hb
theorem KB.below (h : KB T w W) {B : Nat} {u : World} (hu : Below B u w) (hB : B ≤ w.heap.size) (hn : ∀ k, T k → B ≤ k) : Below B u W :=
 ⟨h.os.trans hu.os, h.tape.trans hu.tape, h.output.trans hu.output, Nat.le_trans hu.size h.size, fun k hk => (h.block k (by omega) (fun x => by have := hn k x; omega)).trans (hu.block k hk)⟩
theorem KB.toBelow (h : KB T w W) (hn : ∀ k, T k → w.heap.size ≤ k) : Below w.heap.size w W := h.below (Below.refl _ _) (Nat.le_refl _) hn
theorem KB.from (h : KB T w W) {B : Nat} (hn : ∀ k, T k → k < B) : KeepsFrom B w W :=
 ⟨h.size, fun k o hB hk _ => (h.block k (blk_lt hk) (fun x => by have := hn k x; omega)).trans hk⟩
theorem KB.R {α : Type} {d : Kd α} {e base : Nat} {ok : Nat → Prop} {v : Value} {xs : List α} (h : KB T w W) (hr : Kd.R d e w base ok v xs) (hok : ∀ k, ok k → ¬ T k) : Kd.R d e W base ok v xs := Kd.R_step hr (fun k ho hlt => h.block k hlt (hok k ho))
end
structure Held (B : Nat) (Inv : (Nat → Prop) → World → Prop) : Prop where
 mono : ∀ A A' W, (∀ k, A' k → A k) → Inv A W → Inv A' W
 fresh : ∀ A W, Inv A W → Inv (fun k => A k ∨ W.heap.size ≤ k) W
 step : ∀ A W W', Inv A W → KB A W W' → Inv A W'
 own : ∀ A W W' row, Inv A W → W.grownBy W' row → (∀ r, row = some r → B ≤ r ∧ ∃ o : Obj, W.heap[r]? = some o ∧ o.isCells = false) → Inv A W'
theorem KeptAt.trans {Bn : Nat} {A B C : World} (h : KeptAt Bn A B) (k : KeptAt Bn B C) : KeptAt Bn A C := Eq.trans k h
abbrev LoopOf (f : Int) := { x : Int // x ∈ loopsOf f 5 }
theorem YieldAt_mono {F : Fence} {m : Nat} {P : Program} {l : Nat} {args : Array Value} {W : World} {R R' : Ending → World → Prop} (h : YieldAt F m P l args W R) (hr : ∀ e w, R e w → R' e w) : YieldAt F m P l args W R' := YieldAt.mono h hr
theorem loops_stops (n : Nat) (hn : 1 ≤ n) (f : Int) (h0f : 0 ≤ f) (Bn : Nat) (w : World) (hBn : w.heap[Bn]? = some (.cells #[.int .i64 f] 3 (0, 0))) :
  SeqStopsK Fence.wide n Try.prog 97 #[.pointer (some ⟨Bn, 0, none⟩)] (fun x : LoopOf f => #[.int .i64 x.1]) (KeptAt Bn) (fun xs => xs.map (·.1) = loopsOf f 5) (fun pre => pre.map (·.1) <+: loopsOf f 5) (loopsOf f 5).length w := by
 intro l J Jx W hW hJ hJx hY h0
 refine (loops1_in Fence.wide n trivial rfl hn l Bn f h0f (fun pre W => ∃ p : List (LoopOf f), p.map (·.1) = pre ∧ J p W) (fun pre W => ∃ p : List (LoopOf f), p.map (·.1) = pre ∧ Jx p W) ?_ W ((hW.block Bn (blk_lt hBn)).trans hBn) ⟨[], rfl, h0⟩).mono ?_
 ·
  rintro pre x W1 hx ⟨p, rfl, hp⟩ hlen
  refine YieldAt_mono (hY p ⟨x, hx⟩ W1 hp (by simpa using hlen)) ?_
  rintro e W' (⟨rfl, h1, h2⟩ | ⟨rfl, h1⟩)
  ·
   exact .inl ⟨rfl, ⟨_, by simp, h1⟩, h2⟩
  ·
   exact .inr ⟨rfl, ⟨_, by simp, h1⟩⟩
 ·
  rintro e W' ⟨hv, (⟨ys, rfl, p, hp, h1⟩ | ⟨pre, hpre, p, rfl, h1⟩)⟩
  ·
   exact ⟨hv, .inl ⟨p, hp, h1⟩⟩
  ·
   exact ⟨hv, .inr ⟨p, hpre, h1⟩⟩
end Go.Proofs.Ytipphcjgdebecaa.PA
namespace Go.Proofs.Ytipphcjgdebecaa.PA
open Go.RowKit Go.Proofs.YtipphcjgdebecaaW.PrintWords Go.Proofs.YtipphcjgdebecaaW.PrintLast Go.Proofs.YtipphcjgdebecaaW.PrintMore
attribute [local go_sem] max2_int min2_int max_two min_two max_three min_three max_four min_four
attribute [local go_sem] Oper.semAt_some
def g1s (of : Int → Int × Bool) (a : Int × Int × Bool) (x : Int) : Int × Int × Bool := if (of x).2 = true ∧ (a.2.2 = false ∨ (of x).1 > a.2.1) then (x, (of x).1, true) else a
def g1 (of : Int → Int × Bool) (l : List Int) : Int × Int × Bool := l.foldl (g1s of) (0, 0, false)
theorem g1_snoc (of : Int → Int × Bool) (l : List Int) (x : Int) : g1 of (l ++ [x]) = g1s of (g1 of l) x := by simp [g1]
theorem allocs4 (w : World) (o1 o2 o3 o4 : Obj) : ∃ w4, (((w.alloc o1).alloc o2).alloc o3).alloc o4 = w4 ∧ w4.heap[w.heap.size]? = some o1 ∧ w4.heap[w.heap.size + 1]? = some o2 ∧ w4.heap[w.heap.size + 1 + 1]? = some o3 ∧ w4.heap[w.heap.size + 1 + 1 + 1]? = some o4 ∧
  w4.heap.size = w.heap.size + 4 ∧ Below w.heap.size w w4 := by
 refine ⟨_, rfl, qaj (qaj (qaj (blk_new w o1) o2) o3) o4, ?_, ?_, ?_, by simp, qae (qae (qae (qae (Below.refl _ _) _) _) _) _⟩
 ·
  have := qaj (qaj (blk_new (w.alloc o1) o2) o3) o4
  simpa using this
 ·
  have := qaj (blk_new ((w.alloc o1).alloc o2) o3) o4
  simpa using this
 ·
  have := blk_new (((w.alloc o1).alloc o2).alloc o3) o4
  simpa using this
theorem keptAt_put {Bn B : Nat} (hBn : Bn < B) (W : World) (l : Nat) (o o' : Obj) (hl : B ≤ l) (_h : W.heap[l]? = some o) (_h1 : o.isCells = false) (_h2 : o.isWalk = false) : KeptAt Bn W (W.putObj l o') := World.putObj_heap_other (by omega)
theorem blk_own {B g : Nat} {W W' : World} {row : Option Nat} {cs : Array Value} {t : TypeId} (hb : W.heap[g]? = some (.cells cs t (0, 0))) (hg : W.grownBy W' row) (hr : ∀ r, row = some r → B ≤ r ∧ ∃ o : Obj, W.heap[r]? = some o ∧ o.isCells = false) : W'.heap[g]? = some (.cells cs t (0, 0)) := by
 refine (hg.block g (blk_lt hb) (fun e => ?_)).trans hb
 obtain ⟨_, o, ho, hc⟩ := hr g e.symm
 rw [hb] at ho
 injection ho with ho
 subst ho
 cases hc
set_option maxRecDepth 100000 in
set_option maxHeartbeats 4000000 in
theorem greatest91_calls {p : Int → Prop} {gf : Nat} {lb : Array Value} (egf : ∀ args w, (callFunc gf args).run Try.prog w = .ok (.enter gf args) w)
  {S Sp : List { x : Int // p x } → Prop} {N Bn : Nat} {w : World} (hBn : Bn < w.heap.size)
  (hseq : ∀ n, 1 ≤ n → SeqStopsK Fence.wide n Try.prog gf lb (fun x : { x : Int // p x } => #[.int .i64 x.1]) (KeptAt Bn) S Sp N w)
  (L : List Int) (hS : ∀ xs, S xs → xs.map (·.1) = L) {Inv : (Nat → Prop) → World → Prop} (HI : Held w.heap.size Inv) (T : Nat → Prop) (hT : ∀ k, T k → k < w.heap.size ∧ k ≠ Bn)
  (A0 : Nat → Prop) (c0 c1 c2 c3 c4 : Value) (of : Int → Int × Bool)
  (hof : ∀ A W x, p x → (∀ k, A k → k < W.heap.size) → Inv A W → Calls Try.prog 91 #[.int .i64 x, c0, c1, c2, c3, c4] W fun e W' => e = .returned (.tuple #[.int .i64 (of x).1, .bool (of x).2]) ∧ Inv A W' ∧ KB T W W')
  (h0 : Inv A0 w) (hA0 : ∀ k, A0 k → k < w.heap.size) :
  Calls Try.prog 71 #[.func (.func gf) #[] lb, .func (.func 91) #[] #[c0, c1, c2, c3, c4]] w fun e W' => e = .returned (.tuple #[.int .i64 (g1 of L).1, .int .i64 (g1 of L).2.1, .bool (g1 of L).2.2]) ∧ Inv A0 W' ∧ KB T w W' := by
 refine (callsIn_wide (n := 8)).1 ?_
 refine callsIn_of_wp_marks Try.func71 rfl trivial ?_ rfl
 simp only [Try.ntmps71, List.size_toArray, List.length_cons, List.length_nil, Nat.reduceAdd, Nat.reduceSub, Array.replicate_succ, Array.replicate_zero, List.push_toArray, List.append_toArray, List.nil_append, List.cons_append]
 gi_wp2
 obtain ⟨w4, hw4, b3, b7, b8, b9, hsz, hb⟩ := allocs4 w (.cells #[.func (.func 91) #[] #[c0, c1, c2, c3, c4]] 110) (.cells #[.int .i64 0] 3) (.cells #[.int .i64 0] 3) (.cells #[.bool false] 4)
 rw [hw4]
 clear hw4
 obtain ⟨A, hAe⟩ : ∃ A : Nat → Prop, A = (fun k => A0 k ∨ k = w.heap.size + 1 ∨ k = w.heap.size + 1 + 1 ∨ k = w.heap.size + 1 + 1 + 1) := ⟨_, rfl⟩
 have hA : ∀ k, A k → k < w4.heap.size := fun k hk => by
  rw [hAe] at hk
  rcases hk with hk | hk | hk | hk
  ·
   have := hA0 k hk
   omega
  ·
   omega
  ·
   omega
  ·
   omega
 have i0 : Inv A w4 := by
  refine HI.step _ w _ (HI.mono _ _ _ (fun k hk => ?_) (HI.fresh _ _ h0)) (KB.of_below hb _)
  rw [hAe] at hk
  rcases hk with hk | hk | hk | hk
  ·
   exact .inl hk
  ·
   exact .inr (by omega)
  ·
   exact .inr (by omega)
  ·
   exact .inr (by omega)
 refine wpIn_rangeFunc_ownG rfl (by omega) (gf := gf) (lb := lb) rfl trivial egf (hseq _ (by omega)) (fun h k => KeptAt.trans h k) (keptAt_put (by omega)) hb (fun _ => rfl)
  (fun pre W => Inv A W ∧ W.heap[w.heap.size]? = some (.cells #[.func (.func 91) #[] #[c0, c1, c2, c3, c4]] 110 (0, 0)) ∧
   W.heap[w.heap.size + 1]? = some (.cells #[.int .i64 (g1 of (pre.map (·.1))).1] 3 (0, 0)) ∧ W.heap[w.heap.size + 1 + 1]? = some (.cells #[.int .i64 (g1 of (pre.map (·.1))).2.1] 3 (0, 0)) ∧
   W.heap[w.heap.size + 1 + 1 + 1]? = some (.cells #[.bool (g1 of (pre.map (·.1))).2.2] 4 (0, 0)) ∧ KB T w W)
  (fun _ _ _ => False) ?own (fun _ _ _ _ _ hs _ _ => hs) ⟨i0, b3, b7, b8, b9, KB.of_below hb T⟩
  (fun x => { tmps := #[.func (.func gf) #[] lb, .func (.func 91) #[] #[c0, c1, c2, c3, c4], undef, .pointer (some ⟨w.heap.size, 0, none⟩), .int .i64 0, .int .i64 0, .bool false, .pointer (some ⟨w.heap.size + 1, 0, none⟩), .pointer (some ⟨w.heap.size + 1 + 1, 0, none⟩), .pointer (some ⟨w.heap.size + 1 + 1 + 1, 0, none⟩),
   .int .i64 x.1, undef, undef, .func (.func gf) #[] lb, .int .i64 x.1, undef, undef, undef, undef, undef, undef, undef, undef, undef, undef, undef, undef, undef, undef, undef, undef, undef, undef, undef, undef, undef], defers := [] }) ?assign ?body ?done ?stop
 case own =>
  rintro s A B row ⟨h1, h2, h3, h4, h5, h6⟩ hg hr
  refine ⟨HI.own _ _ _ row h1 hg (fun r e => ⟨by have := (hr r e).1; omega, (hr r e).2⟩), blk_own h2 hg hr, blk_own h3 hg hr, blk_own h4 hg hr, blk_own h5 hg hr, ?_⟩
  exact h6.trans (KB.of_grown hg) (fun k e => .inr (by have := (hr k e).1; omega))
 case assign =>
  intro l x W K hK
  gi_wp2
  exact hK
 case body =>
  rintro l pre x W ⟨h1, h2, h3, h4, h5, h6⟩ _
  have hlt : w4.heap.size ≤ W.heap.size ∨ True := .inr trivial
  have hd : 1 ≤ 8 - 1 - 1 := by omega
  obtain ⟨x, hx⟩ := x
  have hcall := hof A W x hx (fun k hk => by
   have e1 := blk_lt h5
   have := hA k hk
   omega) h1
  have hmap : (pre ++ [(⟨x, hx⟩ : { x : Int // p x })]).map (·.1) = pre.map (·.1) ++ [x] := by simp
  have HM := qab.mk hmap
  have hst := g1_snoc of (pre.map (·.1)) x
  unfold g1s at hst
  have HST := qab.mk hst
  clear hst hmap
  generalize hg1 : g1 of (pre.map (·.1)) = g at h3 h4 h5 HST
  obtain ⟨go, gm, gfo⟩ := g
  generalize hn1 : of x = n1 at HST hcall
  obtain ⟨n1, b1⟩ := n1
  dsimp only at h3 h4 h5 HST hcall
  have H1 := qab.mk h1
  have H2 := qab.mk h2
  have H3 := qab.mk h3
  have H4 := qab.mk h4
  have H5 := qab.mk h5
  have H6 := qab.mk h6
  have hc2 : W.cell? ⟨w.heap.size, 0, none⟩ = some (.func (.func 91) #[] #[c0, c1, c2, c3, c4]) := qaa h2 0
  have hWs : w.heap.size ≤ W.heap.size := h6.size
  clear h1 h2 h3 h4 h5 h6 hof hseq hS
  gi_wp2
  refine ⟨trivial, (CallsIn.inRound l (callsIn_wide.2 hcall)).mono ?_⟩
  rintro e W2 ⟨rfl, i1, k1⟩
  clear hcall hc2
  have nT : ∀ j, w.heap.size ≤ j → ¬ T j := fun j hj hk => by have := (hT j hk).1; omega
  have J2 := k1.blk H2.out (nT _ (by omega))
  have J3 := k1.blk H3.out (nT _ (by omega))
  have J4 := k1.blk H4.out (nT _ (by omega))
  have J5 := k1.blk H5.out (nT _ (by omega))
  have KT := qab.mk (H6.out.trans k1 (fun k hk => .inl hk))
  have KW := qab.mk k1
  have I1 := qab.mk i1
  clear i1 k1 H2 H3 H4 H5 H6 H1
  have hc3 : W2.cell? ⟨w.heap.size + 1, 0, none⟩ = some (.int .i64 go) := qaa J3 0
  have hc4 : W2.cell? ⟨w.heap.size + 1 + 1, 0, none⟩ = some (.int .i64 gm) := qaa J4 0
  have hc5 : W2.cell? ⟨w.heap.size + 1 + 1 + 1, 0, none⟩ = some (.bool gfo) := qaa J5 0
  have hf3 : W2.frozen? ⟨w.heap.size + 1, 0, none⟩ = false := qac J3 0
  have hf4 : W2.frozen? ⟨w.heap.size + 1 + 1, 0, none⟩ = false := qac J4 0
  have hf5 : W2.frozen? ⟨w.heap.size + 1 + 1 + 1, 0, none⟩ = false := qac J5 0
  have KEEP : qab (KeepsFrom w4.heap.size W W2 ∧ KeptAt Bn W W2) := ⟨KW.out.from (fun k hk => by have := (hT k hk).1; omega), KW.out.block Bn (by omega) (fun hk => (hT _ hk).2 rfl)⟩
  have B2 := qab.mk J2
  have B3 := qab.mk J3
  have B4 := qab.mk J4
  have B5 := qab.mk J5
  clear J2 J3 J4 J5
  have NO : ∀ a : Act, b1 = false ∨ (gfo = true ∧ ¬ n1 > gm) → ownPostG w4.heap.size (KeptAt Bn) (fun pre W => Inv A W ∧ W.heap[w.heap.size]? = some (.cells #[.func (.func 91) #[] #[c0, c1, c2, c3, c4]] 110 (0, 0)) ∧
   W.heap[w.heap.size + 1]? = some (.cells #[.int .i64 (g1 of (pre.map (·.1))).1] 3 (0, 0)) ∧ W.heap[w.heap.size + 1 + 1]? = some (.cells #[.int .i64 (g1 of (pre.map (·.1))).2.1] 3 (0, 0)) ∧
   W.heap[w.heap.size + 1 + 1 + 1]? = some (.cells #[.bool (g1 of (pre.map (·.1))).2.2] 4 (0, 0)) ∧ KB T w W) (fun _ _ _ => False) (pre ++ [(⟨x, hx⟩ : { x : Int // p x })]) W .normal a W2 := by
   intro a hno
   have hv : g1 of (pre.map (·.1) ++ [x]) = (go, gm, gfo) := by
    rw [HST.out, if_neg]
    rintro ⟨ha, hb⟩
    rcases hno with hno | ⟨hno, hno2⟩
    ·
     rw [hno] at ha; cases ha
    ·
     rcases hb with hb | hb
     ·
      rw [hno] at hb; cases hb
     ·
      exact hno2 hb
   refine ⟨KEEP.out.1, KEEP.out.2, I1.out, B2.out, ?_⟩
   rw [HM.out, hv]
   exact ⟨B3.out, B4.out, B5.out, KT.out⟩
  have HNO := qab.mk NO
  clear NO
  have YES : ∀ a : Act, b1 = true ∧ (gfo = false ∨ n1 > gm) → ownPostG w4.heap.size (KeptAt Bn) (fun pre W => Inv A W ∧ W.heap[w.heap.size]? = some (.cells #[.func (.func 91) #[] #[c0, c1, c2, c3, c4]] 110 (0, 0)) ∧
   W.heap[w.heap.size + 1]? = some (.cells #[.int .i64 (g1 of (pre.map (·.1))).1] 3 (0, 0)) ∧ W.heap[w.heap.size + 1 + 1]? = some (.cells #[.int .i64 (g1 of (pre.map (·.1))).2.1] 3 (0, 0)) ∧
   W.heap[w.heap.size + 1 + 1 + 1]? = some (.cells #[.bool (g1 of (pre.map (·.1))).2.2] 4 (0, 0)) ∧ KB T w W) (fun _ _ _ => False) (pre ++ [(⟨x, hx⟩ : { x : Int // p x })]) W .normal a (((W2.setCell ⟨w.heap.size + 1, 0, none⟩ (.int .i64 x)).setCell ⟨w.heap.size + 1 + 1, 0, none⟩ (.int .i64 n1)).setCell ⟨w.heap.size + 1 + 1 + 1, 0, none⟩ (.bool true)) := by
   intro a hyes
   have hv : g1 of (pre.map (·.1) ++ [x]) = (x, n1, true) := by
    rw [HST.out, if_pos hyes]
   have kA : ∀ S : Nat → Prop, S (w.heap.size + 1) → S (w.heap.size + 1 + 1) → S (w.heap.size + 1 + 1 + 1) → KB S W2 (((W2.setCell ⟨w.heap.size + 1, 0, none⟩ (.int .i64 x)).setCell ⟨w.heap.size + 1 + 1, 0, none⟩ (.int .i64 n1)).setCell ⟨w.heap.size + 1 + 1 + 1, 0, none⟩ (.bool true)) :=
    fun S s1 s2 s3 => (((KB.refl S W2).set (p := ⟨w.heap.size + 1, 0, none⟩) (.inl s1) _).set (p := ⟨w.heap.size + 1 + 1, 0, none⟩) (.inl s2) _).set (p := ⟨w.heap.size + 1 + 1 + 1, 0, none⟩) (.inl s3) _
   have kW := (KW.out.mono (T' := fun k => T k ∨ k = w.heap.size + 1 ∨ k = w.heap.size + 1 + 1 ∨ k = w.heap.size + 1 + 1 + 1) (fun k hk => .inl hk)).trans (kA _ (.inr (.inl rfl)) (.inr (.inr (.inl rfl))) (.inr (.inr (.inr rfl)))) (fun k hk => .inl hk)
   refine ⟨kW.from (fun k hk => ?_), kW.block Bn (by omega) (fun hk => ?_), HI.step _ _ _ I1.out (kA A ?_ ?_ ?_), ?_, ?_⟩
   ·
    rcases hk with hk | hk | hk | hk
    ·
     have := (hT k hk).1
     omega
    ·
     omega
    ·
     omega
    ·
     omega
   ·
    rcases hk with hk | hk | hk | hk
    ·
     exact (hT _ hk).2 rfl
    ·
     omega
    ·
     omega
    ·
     omega
   ·
    rw [hAe]; exact .inr (.inl rfl)
   ·
    rw [hAe]; exact .inr (.inr (.inl rfl))
   ·
    rw [hAe]; exact .inr (.inr (.inr rfl))
   ·
    exact blk_far (blk_far (blk_far B2.out (by dsimp only; omega) _) (by dsimp only; omega) _) (by dsimp only; omega) _
   ·
    rw [HM.out, hv]
    refine ⟨?_, ?_, ?_, ?_⟩
    ·
     exact blk_far (blk_far (blk_set B3.out 0 _) (by dsimp only; omega) _) (by dsimp only; omega) _
    ·
     exact blk_far (blk_set (blk_far B4.out (by dsimp only; omega) _) 0 _) (by dsimp only; omega) _
    ·
     exact blk_set (blk_far (blk_far B5.out (by dsimp only; omega) _) (by dsimp only; omega) _) 0 _
    ·
     exact KT.out.trans (kA (fun k => w.heap.size ≤ k) (by omega) (by omega) (by omega)) (fun k hk => .inr hk)
  have HYES := qab.mk YES
  clear YES
  cases b1 with
  | false =>
   gi_wp2
   exact HNO.out _ (by simp)
  | true =>
   cases gfo with
   | false =>
    gi_wp2
    exact HYES.out _ (by simp)
   | true =>
    by_cases hgt : n1 > gm
    ·
     gi_wp2
     exact HYES.out _ (by simp [hgt])
    ·
     gi_wp2
     exact HNO.out _ (by simp [hgt])
 case done =>
  rintro D xs W hD hSx ⟨h1, h2, h3, h4, h5, h6⟩ hK
  have hl := hS xs hSx
  rw [hl] at h3 h4 h5
  have hc3 : W.cell? ⟨w.heap.size + 1, 0, none⟩ = some (.int .i64 (g1 of L).1) := qaa h3 0
  have hc4 : W.cell? ⟨w.heap.size + 1 + 1, 0, none⟩ = some (.int .i64 (g1 of L).2.1) := qaa h4 0
  have hc5 : W.cell? ⟨w.heap.size + 1 + 1 + 1, 0, none⟩ = some (.bool (g1 of L).2.2) := qaa h5 0
  clear hof hseq hS h2 h3 h4 h5
  generalize hgL : g1 of L = g at hc3 hc4 hc5
  have HG := qab.mk hgL
  clear hgL
  have H1 := qab.mk h1
  have H6 := qab.mk h6
  have HK := qab.mk hK
  clear h1 h6 hK
  gi_wp2
  gi_region
  all_goals gi_wp2
  refine ⟨by simp, .inl ⟨_, _, rfl, run_takeDeferred (show W.drew.heap[D]? = _ from HK.out), ?_⟩⟩
  have hput := grownBy_putObj' W.drew D (.deferred none)
  have hrow : ∀ r, some D = some r → w.heap.size ≤ r ∧ ∃ o : Obj, W.drew.heap[r]? = some o ∧ o.isCells = false := fun r e => by
   injection e with e
   subst e
   exact ⟨by omega, _, HK.out, rfl⟩
  have hid : Inv A W.drew := HI.own A W W.drew none H1.out ⟨rfl, rfl, rfl, Nat.le_refl _, fun _ _ _ => rfl⟩ (fun r e => by cases e)
  have hi2 := HI.own A W.drew _ (some D) hid hput hrow
  refine ⟨_, results_tmp3 rfl _ _ _, by rw [HG.out]; rfl, HI.mono _ _ _ (fun k hk => by rw [hAe]; exact .inl hk) hi2, ?_⟩
  have hk6 : KB T w W.drew := ⟨H6.out.os, H6.out.tape, H6.out.output, H6.out.size, H6.out.block⟩
  exact hk6.trans (KB.of_grown hput) (fun k e => .inr (by injection e with e; omega))
 case stop =>
  rintro D c pre W _ _ h _
  exact h.elim
end Go.Proofs.Ytipphcjgdebecaa.PA
namespace Go.Proofs.Ytipphcjgdebecaa.PA
open Go.RowKit Go.Shelf Go.Proofs.YtipphcjgdebecaaW.PrintWords Go.Proofs.YtipphcjgdebecaaW.PrintLast Go.Proofs.YtipphcjgdebecaaW.PrintMore
attribute [local go_sem] max2_int min2_int max_two min_two max_three min_three max_four min_four
def Opens {α : Type} (d : Kd α) (t : TypeId) : Prop := ∀ (H : Type) (enc : TypeId × Value → H) (w : World) (base fuel : Nat) (cs : List Value) (x : DataW H × List MemPlace), DataW.trod enc Try.prog w base (fun _ => true) true fuel t cs = some x → ∃ v, d.K w v cs
theorem opens_int : Opens (Kd.int .i64) 3 := by
 intro H enc w base fuel cs x h
 obtain ⟨n, rfl, _, _⟩ := DataW.trod_int Try.underlying3 h
 exact ⟨n, rfl⟩
theorem opens_bool : Opens Kd.bool 4 := by
 intro H enc w base fuel cs x h
 obtain ⟨n, rfl, _⟩ := DataW.trod_bool Try.underlying4 h
 exact ⟨n, rfl⟩
theorem cell_of_cells {w : World} {base n : Nat} {a : Addr} {cs : List Value} (h : w.cells? base a n = some cs) : cs.length = n ∧ ∀ i u, cs[i]? = some u → w.cell? (a.add i) = some u := by
 unfold World.cells? at h
 split at h
 ·
  refine ⟨by simpa using mapM_some_length h, fun i u hu => ?_⟩
  have hi : i < n := by
   have h1 := mapM_some_length h
   have h2 := (List.getElem?_eq_some_iff.1 hu).1
   simp at h1
   omega
  have h3 := mapM_some_get h i i (by simp [hi])
  rw [h3]
  exact hu
 ·
  cases h
theorem opens_slice {α : Type} {d : Kd α} {t e : TypeId} (z : α) (ht : Try.prog.underlying t = some (.slice e)) (hz : Try.prog.cellsOf e = d.sz) (hd : Opens d e) : Opens (Kd.slice e d) t := by
 intro H enc w base fuel cs x h
 rcases Deep.open_slice ht h with ⟨rfl, _⟩ | ⟨a, len, cap, m, n, D, Pl, rfl, hb, hl, hm, hmm, _, hel⟩
 ·
  exact ⟨[], none, 0, rfl, Nat.le_refl _, rfl, by simp, fun h => absurd h (by simp)⟩
 ·
  simp only [if_true] at hmm
  subst hmm
  haveI : Inhabited (α × List Value) := ⟨(z, [])⟩
  obtain ⟨F, hF⟩ : ∃ F : Nat → α × List Value, ∀ i, i < len → w.cells? base (a.add (i * Try.prog.cellsOf e)) (Try.prog.cellsOf e) = some (F i).2 ∧ d.K w (F i).1 (F i).2 := by
   have hx : ∀ i, i < len → ∃ q : α × List Value, w.cells? base (a.add (i * Try.prog.cellsOf e)) (Try.prog.cellsOf e) = some q.2 ∧ d.K w q.1 q.2 := fun i hi => by
    obtain ⟨cs', h1, h2⟩ := hel i (by omega)
    obtain ⟨v, hv⟩ := hd H enc w base n cs' _ h2
    exact ⟨(v, cs'), h1, hv⟩
   exact Deep.choose_lt hx
  have hlen : ((List.range len).map fun i => (F i).1).length = len := by simp
  refine ⟨(List.range len).map fun i => (F i).1, some a, m, by rw [hlen], by rw [hlen]; exact hl, rfl, ?_, fun _ => ⟨a, rfl, fun j p hj => ?_⟩⟩
  ·
   rw [hlen]
   have : maxLen ≤ 9223372036854775807 := by decide
   omega
  ·
   obtain ⟨hj1, hj2⟩ := List.getElem?_eq_some_iff.1 hj
   have hjl : j < len := by simpa using hj1
   have hp : p = (F j).1 := by simpa using hj2.symm
   subst hp
   obtain ⟨h1, h2⟩ := hF j hjl
   refine ⟨(F j).2, d.K_len h2, h2, fun i u hu => ?_⟩
   have h3 := (cell_of_cells h1).2 i u hu
   rw [Deep.add_add, hz] at h3
   exact h3
theorem K_pair {α β : Type} {a : Kd α} {b : Kd β} {w : World} {cs : List Value} {o : Nat} {x : α} {y : β} (h1 : a.K w x ((cs.drop o).take a.sz)) (h2 : b.K w y (cs.drop (o + a.sz))) : (Kd.pair a b).K w (x, y) (cs.drop o) :=
 ⟨_, _, by have h := (List.take_append_drop a.sz (cs.drop o)).symm; rwa [List.drop_drop] at h, h1, h2⟩
theorem K_last {α : Type} {a : Kd α} {w : World} {cs : List Value} {o : Nat} {x : α} (h1 : a.K w x ((cs.drop o).take a.sz)) (hl : cs.length = o + a.sz) : a.K w x (cs.drop o) := by
 rwa [List.take_of_length_le (by simp; omega)] at h1
theorem field_of {α : Type} {d : Kd α} {t : TypeId} (hd : Opens d t) (hz : Try.prog.cellsOf t = d.sz) {H : Type} {enc : TypeId × Value → H} {w : World} {base n o : Nat} {cs : List Value} {xs : List (DataW H × List MemPlace)} {i : Nat} (hi : i < xs.length)
  (h : DataW.trod enc Try.prog w base (fun _ => true) true n t ((cs.drop o).take (Try.prog.cellsOf t)) = xs[i]?) : ∃ v, d.K w v ((cs.drop o).take d.sz) := by
 rw [hz, List.getElem?_eq_getElem hi] at h
 exact hd H enc w base n _ _ h
theorem opens_37 : Opens k37 37 := by
 intro H enc w base fuel cs x h
 obtain ⟨xs, n, rfl, rfl, hl, hxl, hf⟩ := DataW.trod_struct Try.underlying37 h
 have hl' : cs.length = 2 := hl.trans (by kernel_rfl)
 have hx : xs.length = 2 := hxl
 obtain ⟨v0, e0⟩ := field_of opens_int (by kernel_rfl) (i := 0) (by omega) (hf 0 _ rfl)
 obtain ⟨v1, e1⟩ := field_of opens_int (by kernel_rfl) (i := 1) (by omega) (hf 1 _ rfl)
 exact ⟨⟨v0, v1⟩, K_pair (o := 0) e0 (K_last (o := 0 + 1) e1 hl')⟩
theorem opens_44 : Opens k44 44 := by
 intro H enc w base fuel cs x h
 obtain ⟨xs, n, rfl, rfl, hl, hxl, hf⟩ := DataW.trod_struct Try.underlying44 h
 have hl' : cs.length = 3 := hl.trans (by kernel_rfl)
 have hx : xs.length = 3 := hxl
 obtain ⟨v0, e0⟩ := field_of opens_int (by kernel_rfl) (i := 0) (by omega) (hf 0 _ rfl)
 obtain ⟨v1, e1⟩ := field_of opens_int (by kernel_rfl) (i := 1) (by omega) (hf 1 _ rfl)
 obtain ⟨v2, e2⟩ := field_of opens_bool (by kernel_rfl) (i := 2) (by omega) (hf 2 _ rfl)
 exact ⟨⟨v0, v1, v2⟩, K_pair (o := 0) e0 (K_pair (o := 0 + 1) e1 (K_last (o := 0 + 1 + 1) e2 hl'))⟩
theorem opens_39 : Opens k39 39 := by
 intro H enc w base fuel cs x h
 obtain ⟨xs, n, rfl, rfl, hl, hxl, hf⟩ := DataW.trod_struct Try.underlying39 h
 have hl' : cs.length = 12 := hl.trans (by kernel_rfl)
 have hx : xs.length = 8 := hxl
 obtain ⟨v0, e0⟩ := field_of opens_37 (by kernel_rfl) (i := 0) (by omega) (hf 0 _ rfl)
 obtain ⟨v1, e1⟩ := field_of opens_37 (by kernel_rfl) (i := 1) (by omega) (hf 1 _ rfl)
 obtain ⟨v2, e2⟩ := field_of opens_37 (by kernel_rfl) (i := 2) (by omega) (hf 2 _ rfl)
 obtain ⟨v3, e3⟩ := field_of opens_int (by kernel_rfl) (i := 3) (by omega) (hf 3 _ rfl)
 obtain ⟨v4, e4⟩ := field_of opens_int (by kernel_rfl) (i := 4) (by omega) (hf 4 _ rfl)
 obtain ⟨v5, e5⟩ := field_of opens_int (by kernel_rfl) (i := 5) (by omega) (hf 5 _ rfl)
 obtain ⟨v6, e6⟩ := field_of opens_int (by kernel_rfl) (i := 6) (by omega) (hf 6 _ rfl)
 obtain ⟨v7, e7⟩ := field_of opens_37 (by kernel_rfl) (i := 7) (by omega) (hf 7 _ rfl)
 exact ⟨⟨v0, v1, v2, v3, v4, v5, v6, v7⟩, K_pair (o := 0) e0 (K_pair (o := 0 + 2) e1 (K_pair (o := 0 + 2 + 2) e2 (K_pair (o := 0 + 2 + 2 + 2) e3 (K_pair (o := 0 + 2 + 2 + 2 + 1) e4 (K_pair (o := 0 + 2 + 2 + 2 + 1 + 1) e5 (K_pair (o := 0 + 2 + 2 + 2 + 1 + 1 + 1) e6 (K_last (o := 0 + 2 + 2 + 2 + 1 + 1 + 1 + 1) e7 hl')))))))⟩
theorem opens_22 : Opens (Kd.slice 39 k39) 22 := opens_slice z39 Try.underlying22 (by kernel_rfl) opens_39
theorem opens_23 : Opens (Kd.slice 37 k37) 23 := opens_slice z37 Try.underlying23 (by kernel_rfl) opens_37
theorem opens_27 : Opens (Kd.slice 44 k44) 27 := opens_slice z44 Try.underlying27 (by kernel_rfl) opens_44
theorem opens_47 : Opens (Kd.slice 3 (Kd.int .i64)) 47 := opens_slice 0 Try.underlying47 (by kernel_rfl) opens_int
theorem opens_24 : Opens (Kd.slice 47 (Kd.slice 3 (Kd.int .i64))) 24 := opens_slice [] Try.underlying24 (by kernel_rfl) opens_47
set_option maxRecDepth 100000 in
theorem open_net {H : Type} {enc : TypeId × Value → H} {w : World} {b0 : Nat} {v : Value} {d : DataW H} {p : List MemPlace} (hv : Value.okWide Try.prog w .any b0 26 v) (h : DataW.Trod enc Try.prog w 0 (fun _ => true) true 26 v d p) :
  ∃ (A0 : Option Addr) (c0 : Nat) (l0 : List S39) (A1 : Option Addr) (c1 : Nat) (l1 : List S37) (A2 : Option Addr) (c2 : Nat) (l2 : List (List Int)), v = .agg #[.slice A0 l0.length c0, .slice A1 l1.length c1, .slice A2 l2.length c2] ∧
   Kd.C k39 w A0 l0.length l0 ∧ l0.length ≤ c0 ∧ Kd.C k37 w A1 l1.length l1 ∧ l1.length ≤ c1 ∧ Kd.C (Kd.slice 3 (Kd.int .i64)) w A2 l2.length l2 ∧ l2.length ≤ c2 := by
 obtain ⟨v0, v1, v2, y0, y1, y2, n, rfl, _, _, h0, h1, h2⟩ := Joins.open_agg3 Try.underlying26 (by kernel_rfl) (by kernel_rfl) hv h
 obtain ⟨l0, A0, c0, e0, f0, g0⟩ := opens_22 H enc w 0 n _ _ h0
 obtain ⟨l1, A1, c1, e1, f1, g1⟩ := opens_23 H enc w 0 n _ _ h1
 obtain ⟨l2, A2, c2, e2, f2, g2⟩ := opens_24 H enc w 0 n _ _ h2
 injection e0 with e0 _
 injection e1 with e1 _
 injection e2 with e2 _
 subst e0 e1 e2
 exact ⟨A0, c0, l0, A1, c1, l1, A2, c2, l2, rfl, g0, f0, g1, f1, g2, f2⟩
set_option maxRecDepth 100000 in
theorem open_truth {H : Type} {enc : TypeId × Value → H} {w : World} {b0 : Nat} {v : Value} {d : DataW H} {p : List MemPlace} (hv : Value.okWide Try.prog w .any b0 27 v) (h : DataW.Trod enc Try.prog w 0 (fun _ => true) true 27 v d p) :
  ∃ (A : Option Addr) (c : Nat) (l : List S44), v = .slice A l.length c ∧ Kd.C k44 w A l.length l ∧ l.length ≤ c := by
 obtain ⟨a, len, cap, rfl⟩ := WideShapes.okWide_slice Try.underlying27 hv
 obtain ⟨n, hn⟩ := h
 obtain ⟨l, A, c, e, f, g⟩ := opens_27 H enc w 0 n _ _ hn
 simp [Value.cells] at e
 obtain ⟨rfl, rfl, rfl⟩ := e
 exact ⟨_, _, l, rfl, g, f⟩
end Go.Proofs.Ytipphcjgdebecaa.PA
namespace Go.Proofs.Ytipphcjgdebecaa.PA
open Go.RowKit Go.Proofs.YtipphcjgdebecaaW.PrintWords Go.Proofs.YtipphcjgdebecaaW.PrintLast Go.Proofs.YtipphcjgdebecaaW.PrintMore
attribute [local go_sem] max2_int min2_int max_two min_two max_three min_three max_four min_four
def inB (x lo hi : Int) : Bool := decide (lo ≤ x) && decide (x ≤ hi)
def spanB (s : S37) (lo hi : Int) : Bool := decide (lo ≤ s.f0) && (decide (s.f0 ≤ s.f1) && decide (s.f1 ≤ hi))
def loopB (l : S39) : Bool := spanB l.f0 1 1000 && (spanB l.f1 0 1000 && (spanB l.f2 0 1000 && (decide (l.f2.f0 ≤ l.f1.f0) && (decide (l.f2.f1 ≤ l.f1.f1) && (inB l.f3 0 1000000 && (inB l.f4 1 10000 && (inB l.f5 0 1000 && (inB l.f6 0 1000 && spanB l.f7 0 72))))))))
def rowB (places : Int) (i : Int) (row : List Int) : Bool := decide ((row.length : Int) = places) && (decide (rd row i = 0) && row.all fun h => inB h 0 72)
def waysB (places : Int) (ways : List (List Int)) : Bool := (List.range ways.length).all fun i => rowB places i (ways.getD i [])
def validB (l0 : List S39) (l1 : List S37) (l2 : List (List Int)) : Bool :=
 decide ((l2.length : Int) = l0.length + 1) && (waysB (l0.length + 1) l2 && (inB l0.length 1 5 && (inB l1.length 1 72 && (l0.all loopB && l1.all fun s => spanB s 0 1000))))
theorem pipe_in_eq (x lo hi : Int) : pipe_in.f x lo hi = some (inB x lo hi) := by
 unfold pipe_in.f inB
 by_cases h : x ≥ lo <;> simp [h]
theorem pipe_span_eq (a b lo hi : Int) : pipe_span.f a b lo hi = some (spanB ⟨a, b⟩ lo hi) := by
 unfold pipe_span.f spanB
 by_cases h : a ≥ lo <;> by_cases h2 : a ≤ b <;> simp [h, h2]
theorem pipe_loop_eq (l : S39) : pipe_loop.f l.f0.f0 l.f0.f1 l.f1.f0 l.f1.f1 l.f2.f0 l.f2.f1 l.f3 l.f4 l.f5 l.f6 l.f7.f0 l.f7.f1 = some (loopB l) := by
 unfold pipe_loop.f loopB
 simp only [pipe_span_eq, pipe_in_eq, Option.bind_some]
 cases spanB l.f0 1 1000 <;> simp
 cases spanB l.f1 0 1000 <;> simp
 cases spanB l.f2 0 1000 <;> simp
 by_cases h1 : l.f2.f0 ≤ l.f1.f0 <;> simp [h1]
 by_cases h2 : l.f2.f1 ≤ l.f1.f1 <;> simp [h2]
 cases inB l.f3 0 1000000 <;> simp
 cases inB l.f4 1 10000 <;> simp
 cases inB l.f5 0 1000 <;> simp
 cases inB l.f6 0 1000 <;> simp
theorem waysB_all (places : Int) (ways : List (List Int)) (h : ∀ j, j < ways.length → rowB places j (ways.getD j []) = true) : waysB places ways = true := by
 unfold waysB
 rw [List.all_eq_true]
 intro i hi
 exact h i (List.mem_range.1 hi)
theorem waysB_not (places : Int) (ways : List (List Int)) (j : Nat) (hj : j < ways.length) (h : rowB places j (ways.getD j []) = false) : waysB places ways = false := by
 unfold waysB
 rw [List.all_eq_false]
 exact ⟨j, List.mem_range.2 hj, by simp at h; simp [h]⟩
theorem in_calls (x lo hi : Int) (W : World) : Calls Try.prog 55 #[.int .i64 x, .int .i64 lo, .int .i64 hi] W fun e w' => e = .returned (.bool (inB x lo hi)) ∧ Below W.heap.size W w' :=
 (pipe_in.calls x lo hi _ W (pipe_in_eq x lo hi)).mono fun e w' ⟨h1, h2⟩ => ⟨h1, h2.below⟩
theorem valid_1_calls (x : Int) (W : World) : Calls Try.prog 82 #[.int .i64 x] W fun e w' => e = .returned (.bool (!inB x 0 72)) ∧ Below W.heap.size W w' := by
 have h : pipe_valid_1.f x = some (!inB x 0 72) := by unfold pipe_valid_1.f; rw [pipe_in_eq]; rfl
 exact (pipe_valid_1.calls x _ W h).mono fun e w' ⟨h1, h2⟩ => ⟨h1, h2.below⟩
theorem valid_2_calls (x : S39) (W : World) : Calls Try.prog 84 #[.agg #[.int .i64 x.f0.f0, .int .i64 x.f0.f1, .int .i64 x.f1.f0, .int .i64 x.f1.f1, .int .i64 x.f2.f0, .int .i64 x.f2.f1, .int .i64 x.f3, .int .i64 x.f4, .int .i64 x.f5, .int .i64 x.f6, .int .i64 x.f7.f0, .int .i64 x.f7.f1]] W fun e w' => e = .returned (.bool (!loopB x)) ∧ Below W.heap.size W w' := by
 have h : pipe_valid_2.f x.f0.f0 x.f0.f1 x.f1.f0 x.f1.f1 x.f2.f0 x.f2.f1 x.f3 x.f4 x.f5 x.f6 x.f7.f0 x.f7.f1 = some (!loopB x) := by unfold pipe_valid_2.f; rw [pipe_loop_eq]; rfl
 exact (pipe_valid_2.calls _ _ _ _ _ _ _ _ _ _ _ _ _ W h)
theorem valid_3_calls (x : S37) (W : World) : Calls Try.prog 87 #[.agg #[.int .i64 x.f0, .int .i64 x.f1]] W fun e w' => e = .returned (.bool (!spanB x 0 1000)) ∧ Below W.heap.size W w' := by
 have h : pipe_valid_3.f x.f0 x.f1 = some (!spanB x 0 1000) := by unfold pipe_valid_3.f; rw [pipe_span_eq]; rfl
 exact (pipe_valid_3.calls _ _ _ W h)
def pipe_valid.f (l0_0 : List (S39)) (l0_1 : List (S37)) (l0_2 : List (List Int)) : Option (Bool) := some (validB l0_0 l0_1 l0_2)
set_option maxHeartbeats 4000000 in
set_option maxRecDepth 100000 in
theorem pipe_valid.calls (A0_0 : Option Addr) (c0_0 : Nat) (l0_0 : List (S39)) (A0_1 : Option Addr) (c0_1 : Nat) (l0_1 : List (S37)) (A0_2 : Option Addr) (c0_2 : Nat) (l0_2 : List (List Int)) (r : Bool) (w : World) (hr0_0 : Kd.C k39 w A0_0 l0_0.length l0_0) (hc0_0 : l0_0.length ≤ c0_0) (hr0_1 : Kd.C k37 w A0_1 l0_1.length l0_1) (hc0_1 : l0_1.length ≤ c0_1) (hr0_2 : Kd.C (Kd.slice 3 (Kd.int .i64)) w A0_2 l0_2.length l0_2) (hc0_2 : l0_2.length ≤ c0_2) (h : pipe_valid.f l0_0 l0_1 l0_2 = some r) :
  Calls Try.prog 54 #[.agg #[.slice A0_0 l0_0.length c0_0, .slice A0_1 l0_1.length c0_1, .slice A0_2 l0_2.length c0_2]] w fun e w' => e = .returned (.bool r) ∧ Below w.heap.size w w' := by
 obtain rfl := Option.some.inj h
 clear h
 have hu26 := Try.underlying26
 have m2 := Kd.C_max hr0_2
 have m0 := Kd.C_max hr0_0
 have HR0 := qab.mk hr0_0
 have HR1 := qab.mk hr0_1
 have HR2 := qab.mk hr0_2
 clear hr0_0 hr0_1 hr0_2
 have HB := qab.mk (Below.refl w.heap.size w)
 by_cases hp : (l0_2.length : Int) = (l0_0.length : Int) + 1
 ·
  have b0 : (l0_0.length : Int) + 1 ≤ 9223372036854775807 := by omega
  have hp1 : ((l0_2.length : Int) != (l0_0.length : Int) + 1) = false := by simp [hp]
  have HP := qab.mk hp
  clear hp
  go_enter Try.func54, Try.ntmps54
  go_wp2_with ((with_reducible refine qar (N := 1) rfl ?_); refine qap ?hg (N := 1) ?hd (cs := #[.slice A0_0 l0_0.length c0_0, .slice A0_1 l0_1.length c0_1, .slice A0_2 l0_2.length c0_2]) (t := 26) ?hr ?_; (case hd => rfl); (case hg => rfl); (case hr => first | (go_simp; done) | (go_simp; rfl)); intro gb hg w2 hbox hb; have BK := qab.mk hbox; have HB1 := qab.mk (qag HB.out hb); have hf := qac BK.out; have hc0 : w2.cell? ⟨gb, 0, none⟩ = some (.slice A0_0 l0_0.length c0_0) := (qaa BK.out 0).trans rfl; have hc1 : w2.cell? ⟨gb, 1, none⟩ = some (.slice A0_1 l0_1.length c0_1) := (qaa BK.out 1).trans rfl; have hc2 : w2.cell? ⟨gb, 2, none⟩ = some (.slice A0_2 l0_2.length c0_2) := (qaa BK.out 2).trans rfl; clear hbox hb hg)
  go_loopw [18] (fun s18 wr => ∃ k : Nat, k ≤ l0_2.length ∧ s18 = .int .i64 k ∧ qab (∀ j : Nat, j < k → rowB (l0_0.length + 1) j (l0_2.getD j []) = true) ∧ qab (wr.heap[gb]? = some (.cells #[.slice A0_0 l0_0.length c0_0, .slice A0_1 l0_1.length c0_1, .slice A0_2 l0_2.length c0_2] 26 (0, 0))) ∧ qab (Below w.heap.size w wr)) (fun s _ => l0_2.length - (intOf s).toNat)
  case atStart => exact ⟨0, by omega, rfl, ⟨fun j h1 => by omega⟩, BK, HB1⟩
  case round =>
   clear BK HB1 hf hc0 hc1 hc2 hp1
   obtain ⟨k, hk1, rfl, HN, BK, HB⟩ := hrel
   have hf := qac BK.out
   have hc0 : wr.cell? ⟨gb, 0, none⟩ = some (.slice A0_0 l0_0.length c0_0) := (qaa BK.out 0).trans rfl
   have hc1 : wr.cell? ⟨gb, 1, none⟩ = some (.slice A0_1 l0_1.length c0_1) := (qaa BK.out 1).trans rfl
   have hc2 : wr.cell? ⟨gb, 2, none⟩ = some (.slice A0_2 l0_2.length c0_2) := (qaa BK.out 2).trans rfl
   by_cases hlt : k < l0_2.length
   ·
    obtain ⟨ad, A1, c1, e, hrow, hl1, hC⟩ := at_L1 HR2.out k (by omega) (by omega)
    cases e
    replace hrow := (HB.out.cell (World.block_lt_of_cell? w _ hrow)).trans hrow
    simp only [Int.toNat_natCast] at hrow
    have hR : qab (rd_L1 l0_2 k = l0_2.getD k []) := ⟨by simp [rd_L1]⟩
    obtain ⟨row, hrw⟩ : ∃ row, row = rd_L1 l0_2 k := ⟨_, rfl⟩
    rw [← hrw] at hrow hl1 hC hR
    clear hrw
    have HC := qab.mk hC
    have HL := qab.mk hl1
    clear hC hl1
    by_cases h1 : (row.length : Int) = (l0_0.length : Int) + 1
    ·
     have h1b : ((row.length : Int) != (l0_0.length : Int) + 1) = false := by simp [h1]
     obtain ⟨ad1, e1, hx⟩ := Kd.at_int HC.out k (by omega) (by have := HP.out; omega)
     cases e1
     replace hx := (HB.out.cell (World.block_lt_of_cell? w _ hx)).trans hx
     simp only [Int.toNat_natCast] at hx
     have H1 := qab.mk h1
     have k1 : (k : Int) < row.length := by have := HP.out; omega
     clear h1
     by_cases h2 : rd row k = 0
     ·
      have h2b : (rd row k != 0) = false := by simp [h2]
      have H2 := qab.mk h2
      clear h2
      cases h3 : row.any fun h => !inB h 0 72 with
      | true =>
       have H3 := qab.mk h3
       clear h3
       go_wp2_with (go_at_call 81; refine (has82 row _ _ (fun h => !inB h 0 72) _ (Kd.qam HC.out HB.out) (fun i W _ _ _ => valid_1_calls _ W)).mono ?_; rw [H3.out]; rintro e w3 ⟨rfl, hb⟩; have HB3 := qab.mk (qag HB.out hb); clear hb)
       go_ret
       refine ⟨?_, HB3.out⟩
       have hw : waysB (l0_0.length + 1) l0_2 = false := waysB_not _ _ k hlt (by
        rw [← hR.out]
        simp only [rowB, H1.out, H2.out, decide_true, Bool.true_and, List.all_eq_not_any_not, H3.out, Bool.not_true])
       simp [validB, hw]
      | false =>
       have H3 := qab.mk h3
       clear h3
       go_wp2_with (go_at_call 81; refine (has82 row _ _ (fun h => !inB h 0 72) _ (Kd.qam HC.out HB.out) (fun i W _ _ _ => valid_1_calls _ W)).mono ?_; rw [H3.out]; rintro e w3 ⟨rfl, hb⟩; have HB3 := qab.mk (qag HB.out hb); have BK3 := qab.mk (qah BK.out hb); clear hb)
       go_roundw
       case rel => exact ⟨k + 1, by omega, by go_num, ⟨fun j hj => by
        rcases Nat.lt_or_ge j k with h | h
        ·
         exact HN.out j h
        ·
         obtain rfl : j = k := by omega
         rw [← hR.out]
         simp only [rowB, H1.out, H2.out, decide_true, Bool.true_and, List.all_eq_not_any_not, H3.out, Bool.not_false]⟩, BK3, HB3⟩
       case measure => simp [intOf]; omega
     ·
      have h2b : (rd row k != 0) = true := by simp [h2]
      have H2 := qab.mk h2
      clear h2
      go_wp2
      go_ret
      refine ⟨?_, HB.out⟩
      have hw : waysB (l0_0.length + 1) l0_2 = false := waysB_not _ _ k hlt (by
       rw [← hR.out]
       simp only [rowB, H2.out, decide_false, Bool.false_and, Bool.and_false])
      simp [validB, hw]
    ·
     have h1b : ((row.length : Int) != (l0_0.length : Int) + 1) = true := by simp [h1]
     have H1 := qab.mk h1
     clear h1
     go_wp2
     go_ret
     refine ⟨?_, HB.out⟩
     have hw : waysB (l0_0.length + 1) l0_2 = false := waysB_not _ _ k hlt (by
      rw [← hR.out]
      simp only [rowB, H1.out, decide_false, Bool.false_and])
     simp [validB, hw]
   ·
    have HW : qab (waysB (l0_0.length + 1) l0_2 = true) := ⟨waysB_all _ _ (fun j hj => HN.out j (by omega))⟩
    have HV : qab (validB l0_0 l0_1 l0_2 = (inB l0_0.length 1 5 && (inB l0_1.length 1 72 && (l0_0.all loopB && l0_1.all fun s => spanB s 0 1000)))) := ⟨by simp [validB, HP.out, HW.out]⟩
    have HA0 : qab ((l0_0.all loopB) = !(l0_0.any fun x => !loopB x)) := ⟨List.all_eq_not_any_not⟩
    have HA1 : qab ((l0_1.all fun s => spanB s 0 1000) = !(l0_1.any fun x => !spanB x 0 1000)) := ⟨List.all_eq_not_any_not⟩
    cases v1 : inB l0_0.length 1 5 with
    | false =>
     have V1 := qab.mk v1
     clear v1
     go_wp2_with (go_at_call 55; refine (in_calls _ _ _ _).mono ?_; rw [V1.out]; rintro e w3 ⟨rfl, hb⟩; have HB3 := qab.mk (qag HB.out hb); clear hb)
     go_ret
     exact ⟨by rw [HV.out, V1.out]; rfl, HB3.out⟩
    | true =>
     have V1 := qab.mk v1
     clear v1
     cases v2 : inB l0_1.length 1 72 with
     | false =>
      have V2 := qab.mk v2
      clear v2
      go_wp2_with fail
      refine (in_calls _ _ _ _).mono ?_; rw [V1.out]; rintro e w3 ⟨rfl, hb⟩; have HB3 := qab.mk (qag HB.out hb); have BK3 := qab.mk (qah BK.out hb); clear hb
      have hf3 := qac BK3.out; have hc3_0 : w3.cell? ⟨gb, 0, none⟩ = some (.slice A0_0 l0_0.length c0_0) := (qaa BK3.out 0).trans rfl; have hc3_1 : w3.cell? ⟨gb, 1, none⟩ = some (.slice A0_1 l0_1.length c0_1) := (qaa BK3.out 1).trans rfl; have hc3_2 : w3.cell? ⟨gb, 2, none⟩ = some (.slice A0_2 l0_2.length c0_2) := (qaa BK3.out 2).trans rfl
      go_wp2_with fail
      refine (in_calls _ _ _ _).mono ?_; rw [V2.out]; rintro e w4 ⟨rfl, hb⟩; have HB4 := qab.mk (qag HB3.out hb); clear hb
      go_wp2_with fail
      go_ret
      exact ⟨by rw [HV.out, V1.out, V2.out]; rfl, HB4.out⟩
     | true =>
      have V2 := qab.mk v2
      clear v2
      cases v3 : l0_0.any fun x => !loopB x with
      | true =>
       have V3 := qab.mk v3
       clear v3
       go_wp2_with fail
       refine (in_calls _ _ _ _).mono ?_; rw [V1.out]; rintro e w3 ⟨rfl, hb⟩; have HB3 := qab.mk (qag HB.out hb); have BK3 := qab.mk (qah BK.out hb); clear hb
       have hf3 := qac BK3.out; have hc3_0 : w3.cell? ⟨gb, 0, none⟩ = some (.slice A0_0 l0_0.length c0_0) := (qaa BK3.out 0).trans rfl; have hc3_1 : w3.cell? ⟨gb, 1, none⟩ = some (.slice A0_1 l0_1.length c0_1) := (qaa BK3.out 1).trans rfl; have hc3_2 : w3.cell? ⟨gb, 2, none⟩ = some (.slice A0_2 l0_2.length c0_2) := (qaa BK3.out 2).trans rfl
       go_wp2_with fail
       refine (in_calls _ _ _ _).mono ?_; rw [V2.out]; rintro e w4 ⟨rfl, hb⟩; have HB4 := qab.mk (qag HB3.out hb); have BK4 := qab.mk (qah BK3.out hb); clear hb
       have hf4 := qac BK4.out; have hc4_0 : w4.cell? ⟨gb, 0, none⟩ = some (.slice A0_0 l0_0.length c0_0) := (qaa BK4.out 0).trans rfl; have hc4_1 : w4.cell? ⟨gb, 1, none⟩ = some (.slice A0_1 l0_1.length c0_1) := (qaa BK4.out 1).trans rfl; have hc4_2 : w4.cell? ⟨gb, 2, none⟩ = some (.slice A0_2 l0_2.length c0_2) := (qaa BK4.out 2).trans rfl
       go_wp2_with fail
       refine (has84 l0_0 _ _ (fun x => !loopB x) _ (Kd.qam HR0.out HB4.out) (fun i W _ _ _ => valid_2_calls _ W)).mono ?_; rw [V3.out]; rintro e w5 ⟨rfl, hb⟩; have HB5 := qab.mk (qag HB4.out hb); clear hb
       go_wp2_with fail
       go_ret
       exact ⟨by rw [HV.out, V1.out, V2.out, HA0.out, V3.out]; rfl, HB5.out⟩
      | false =>
       have V3 := qab.mk v3
       clear v3
       go_wp2_with fail
       refine (in_calls _ _ _ _).mono ?_; rw [V1.out]; rintro e w3 ⟨rfl, hb⟩; have HB3 := qab.mk (qag HB.out hb); have BK3 := qab.mk (qah BK.out hb); clear hb
       have hf3 := qac BK3.out; have hc3_0 : w3.cell? ⟨gb, 0, none⟩ = some (.slice A0_0 l0_0.length c0_0) := (qaa BK3.out 0).trans rfl; have hc3_1 : w3.cell? ⟨gb, 1, none⟩ = some (.slice A0_1 l0_1.length c0_1) := (qaa BK3.out 1).trans rfl; have hc3_2 : w3.cell? ⟨gb, 2, none⟩ = some (.slice A0_2 l0_2.length c0_2) := (qaa BK3.out 2).trans rfl
       go_wp2_with fail
       refine (in_calls _ _ _ _).mono ?_; rw [V2.out]; rintro e w4 ⟨rfl, hb⟩; have HB4 := qab.mk (qag HB3.out hb); have BK4 := qab.mk (qah BK3.out hb); clear hb
       have hf4 := qac BK4.out; have hc4_0 : w4.cell? ⟨gb, 0, none⟩ = some (.slice A0_0 l0_0.length c0_0) := (qaa BK4.out 0).trans rfl; have hc4_1 : w4.cell? ⟨gb, 1, none⟩ = some (.slice A0_1 l0_1.length c0_1) := (qaa BK4.out 1).trans rfl; have hc4_2 : w4.cell? ⟨gb, 2, none⟩ = some (.slice A0_2 l0_2.length c0_2) := (qaa BK4.out 2).trans rfl
       go_wp2_with fail
       refine (has84 l0_0 _ _ (fun x => !loopB x) _ (Kd.qam HR0.out HB4.out) (fun i W _ _ _ => valid_2_calls _ W)).mono ?_; rw [V3.out]; rintro e w5 ⟨rfl, hb⟩; have HB5 := qab.mk (qag HB4.out hb); have BK5 := qab.mk (qah BK4.out hb); clear hb
       have hf5 := qac BK5.out; have hc5_0 : w5.cell? ⟨gb, 0, none⟩ = some (.slice A0_0 l0_0.length c0_0) := (qaa BK5.out 0).trans rfl; have hc5_1 : w5.cell? ⟨gb, 1, none⟩ = some (.slice A0_1 l0_1.length c0_1) := (qaa BK5.out 1).trans rfl; have hc5_2 : w5.cell? ⟨gb, 2, none⟩ = some (.slice A0_2 l0_2.length c0_2) := (qaa BK5.out 2).trans rfl
       go_wp2_with fail
       refine (has87 l0_1 _ _ (fun x => !spanB x 0 1000) _ (Kd.qam HR1.out HB5.out) (fun i W _ _ _ => valid_3_calls _ W)).mono ?_; rintro e w6 ⟨rfl, hb⟩; have HB6 := qab.mk (qag HB5.out hb); clear hb
       go_wp2_with fail
       go_ret
       exact ⟨by rw [HV.out, V1.out, V2.out, HA0.out, V3.out, HA1.out]; rfl, HB6.out⟩
 ·
  have hp1 : ((l0_2.length : Int) != wrap64 ((l0_0.length : Int) + 1)) = true := by
   rw [bne_iff_ne]
   unfold wrap64
   omega
  have HP := qab.mk hp
  clear hp
  go_enter Try.func54, Try.ntmps54
  go_wp2_with ((with_reducible refine qar (N := 1) rfl ?_); refine qap ?hg (N := 1) ?hd (cs := #[.slice A0_0 l0_0.length c0_0, .slice A0_1 l0_1.length c0_1, .slice A0_2 l0_2.length c0_2]) (t := 26) ?hr ?_; (case hd => rfl); (case hg => rfl); (case hr => first | (go_simp; done) | (go_simp; rfl)); intro gb hg w2 hbox hb; have BK := qab.mk hbox; have HB1 := qab.mk (qag HB.out hb); have hf := qac BK.out; have hc0 : w2.cell? ⟨gb, 0, none⟩ = some (.slice A0_0 l0_0.length c0_0) := (qaa BK.out 0).trans rfl; have hc1 : w2.cell? ⟨gb, 1, none⟩ = some (.slice A0_1 l0_1.length c0_1) := (qaa BK.out 1).trans rfl; have hc2 : w2.cell? ⟨gb, 2, none⟩ = some (.slice A0_2 l0_2.length c0_2) := (qaa BK.out 2).trans rfl; clear hbox hb hg)
  go_ret
  exact ⟨by simp [validB, HP.out], HB1.out⟩
end Go.Proofs.Ytipphcjgdebecaa.PA
namespace Go.Proofs.Ytipphcjgdebecaa.PA
open Go.RowKit Go.Proofs.YtipphcjgdebecaaW.PrintWords Go.Proofs.YtipphcjgdebecaaW.PrintLast Go.Proofs.YtipphcjgdebecaaW.PrintMore
attribute [local go_sem] max2_int min2_int max_two min_two max_three min_three max_four min_four
def setAll (W : World) (g : Nat) : List Value → Nat → World
 | [], _ => W
 | v :: r, i => setAll (W.setCell ⟨g, i, none⟩ v) g r (i + 1)
theorem setAll_blk {g t : Nat} : ∀ (vs zs pre : List Value) (W : World), W.heap[g]? = some (.cells (pre ++ zs).toArray t (0, 0)) → zs.length = vs.length → (setAll W g vs pre.length).heap[g]? = some (.cells (pre ++ vs).toArray t (0, 0))
 | [], zs, pre, W, h, hl => by
  have : zs = [] := List.length_eq_zero_iff.1 hl
  subst this
  exact h
 | v :: vs, [], pre, W, h, hl => by simp at hl
 | v :: vs, z :: zs, pre, W, h, hl => by
  have h1 := blk_set h pre.length v
  have e : (pre ++ z :: zs).toArray.setIfInBounds pre.length v = ((pre ++ [v]) ++ zs).toArray := by simp
  rw [e] at h1
  have h2 := setAll_blk vs zs (pre ++ [v]) _ h1 (by simpa using hl)
  have e2 : pre ++ v :: vs = pre ++ [v] ++ vs := by simp
  rw [e2]
  have e3 : (pre ++ [v]).length = pre.length + 1 := by simp
  rw [e3] at h2
  exact h2
theorem setAll_new {g t : Nat} {W : World} (vs zs : List Value) (h : W.heap[g]? = some (.cells zs.toArray t (0, 0))) (hl : zs.length = vs.length) : (setAll W g vs 0).heap[g]? = some (.cells vs.toArray t (0, 0)) := setAll_blk vs zs [] W h hl
theorem setAll_far {g g' t : Nat} {cs : Array Value} (hne : g' ≠ g) : ∀ (vs : List Value) (i : Nat) (W : World), W.heap[g']? = some (.cells cs t (0, 0)) → (setAll W g vs i).heap[g']? = some (.cells cs t (0, 0))
 | [], _, _, h => h
 | v :: vs, i, W, h => setAll_far hne vs (i + 1) _ (blk_far h hne v)
theorem setAll_below {g : Nat} {w : World} (hg : w.heap.size ≤ g) : ∀ (vs : List Value) (i : Nat) (W : World), Below w.heap.size w W → Below w.heap.size w (setAll W g vs i)
 | [], _, _, h => h
 | v :: vs, i, W, h => setAll_below hg vs (i + 1) _ (qai h hg)
theorem new_ints (W : World) (xs : List Int) (h : xs.length ≤ 9223372036854775807) : Kd.C (Kd.int .i64) (W.alloc (.cells (xs.map (Value.int .i64)).toArray 3)) (some ⟨W.heap.size, 0, none⟩) xs.length xs :=
 Kd.C_of_reads (enc := Value.int .i64) (d := (0 : Int)) (h1 := fun _ => rfl) ⟨rfl, h, fun _ => ⟨_, rfl, fun j hj => by
  have h1 := qaa (blk_new W (.cells (xs.map (Value.int .i64)).toArray 3)) j
  have h2 : (⟨W.heap.size, 0, none⟩ : Addr).add j = ⟨W.heap.size, j, none⟩ := by simp [Addr.add]; try omega
  rw [h2, h1]
  simp [hj]⟩⟩
theorem new_row {α : Type} (d : Kd α) (e : Nat) (W : World) (xs : List α) (inner : List Value) (hrep : Reps (d.M W W.heap.size (fun _ => True)) d.sz xs inner) (hm : xs.length ≤ 9223372036854775807) :
  d.R e (W.alloc (.cells inner.toArray e)) W.heap.size (fun _ => True) (.slice (some ⟨W.heap.size, 0, none⟩) xs.length xs.length) xs := by
 refine ⟨fun _ _ => trivial, inner, ?_, ?_⟩
 ·
  have h2 := World.ownsRow_lit (base := W.heap.size) (e := e) (size := d.sz) W inner.toArray xs.length (Nat.le_refl _) (by simpa [maxLen] using hm) (by simpa using hrep.1)
  simpa using h2
 ·
  refine hrep.imp_ (fun p c hp => d.M_mono (fun k hk => ⟨trivial, fun he => ?_⟩) (Kd.M_below (d.M_bound hp) (qae (Below.refl _ _) _)))
  have h3 : k = W.heap.size := by simpa [Value.ownBlock] using he
  have := hk.2.2.1
  omega
end Go.Proofs.Ytipphcjgdebecaa.PA
namespace Go.Proofs.Ytipphcjgdebecaa.PA
open Go.RowKit Go.Proofs.YtipphcjgdebecaaW.PrintWords Go.Proofs.YtipphcjgdebecaaW.PrintLast Go.Proofs.YtipphcjgdebecaaW.PrintMore
attribute [local go_sem] max2_int min2_int max_two min_two max_three min_three max_four min_four
def pipe_sum.l0 : Nat → Int → List Int → Int → Int → Option (Int)
 | 0, _, _, _, _ => none
 | k + 1, x3, x6, x7, x8 => if x8 < x7 then (if 0 ≤ x8 then (if x8 < (x6.length : Int) then (pipe_sum.l0 k (wrap64 (x3 + (rd x6 x8))) x6 x7 (wrap64 (x8 + 1))) else (none)) else (none)) else (some x3)
def pipe_sum.f (k : Nat) (l0 : List Int) : Option (Int) := pipe_sum.l0 k 0 l0 (l0.length : Int) 0
set_option maxHeartbeats 8000000 in
set_option maxRecDepth 100000 in
theorem pipe_sum.calls (k : Nat) (A0 : Option Addr) (c0 : Nat) (l0 : List Int) (r : Int) (w : World) (hr0 : Kd.C (Kd.int .i64) w A0 l0.length l0) (hc0 : l0.length ≤ c0) (h : pipe_sum.f k l0 = some r) :
  Calls Try.prog 57 #[.slice A0 l0.length c0] w fun e w' => e = .returned (.int .i64 r) ∧ Drawn0 w w' := by
 have HR0 := qab.mk hr0
 have HC0 := qab.mk hc0
 clear hr0 hc0
 have H : (pipe_sum.l0 k 0 l0 (l0.length : Int) 0) = some r := h
 clear h
 have H' := qab.mk H
 clear H
 go_enter Try.func57, Try.ntmps57
 go_wp2
 go_loopg [3, 8] k (fun kq v3 v8 w' => ∃ (x3_1 : Int) (x8_1 : Int), v3 = .int .i64 x3_1 ∧ v8 = .int .i64 x8_1 ∧ qab (pipe_sum.l0 kq x3_1 l0 (l0.length : Int) x8_1 = some r) ∧ qab (kq ≤ k) ∧ Drawn0 w w')
 case atStart => exact ⟨(0), (0), (by first | rfl | (simp; done) | (simp [*]; done)), (by first | rfl | (simp; done) | (simp [*]; done)), H', ⟨Nat.le_refl _⟩, by repeat (first | exact Drawn0.refl _ | apply Drawn0.step)⟩
 case round =>
  clear H'
  obtain ⟨x3_1, x8_1, rfl, rfl, HA, HK1, ⟨m1, rfl⟩⟩ := hrel
  cases gk with
  | zero => exact absurd HA.out (by simp [pipe_sum.l0])
  | succ k1 =>
   have H := HA.out
   clear HA
   simp only [pipe_sum.l0] at H
   by_cases c2 : x8_1 < (l0.length : Int)
   ·
    rw [if_pos c2] at H
    have c2b0 : decide (x8_1 < (l0.length : Int)) = true := decide_eq_true c2
    clear c2
    by_cases c3 : 0 ≤ x8_1
    ·
     rw [if_pos c3] at H
     have c3b0 : decide (0 ≤ x8_1) = true := decide_eq_true c3
     clear c3
     by_cases c4 : x8_1 < (l0.length : Int)
     ·
      rw [if_pos c4] at H
      have c4b0 : decide (x8_1 < (l0.length : Int)) = true := decide_eq_true c4
      clear c4
      have H' := qab.mk H
      clear H
      have p123 : 0 ≤ (x8_1 : Int) := of_decide_eq_true (by first | (with_reducible assumption) | assumption)
      have q123 : x8_1 < (l0.length : Int) := of_decide_eq_true (by first | (with_reducible assumption) | assumption)
      obtain ⟨ad123, e123, hx123_0⟩ := Kd.at_int HR0.out x8_1 p123 q123
      cases e123
      replace p123 := eq_true p123
      replace q123 := eq_true q123
      go_wp2
      go_roundg k1
      case measure => have := HK1.out; omega
      case rel => exact ⟨(wrap64 (x3_1 + (rd l0 x8_1))), (wrap64 (x8_1 + 1)), (by first | rfl | (simp; done) | (simp [*]; done)), (by first | rfl | (simp; done) | (simp [*]; done)), H', ⟨by have := HK1.out; omega⟩, by repeat (first | exact Drawn0.refl _ | apply Drawn0.step)⟩
     ·
      rw [if_neg c4] at H
      exact absurd H (by simp)
    ·
     rw [if_neg c3] at H
     exact absurd H (by simp)
   ·
    rw [if_neg c2] at H
    have c2b0 : decide (x8_1 < (l0.length : Int)) = false := decide_eq_false c2
    clear c2
    obtain rfl := Option.some.inj H
    go_wp2
    go_ret
    exact ⟨by first | rfl | (simp; done) | (simp [*]; done), by repeat (first | exact Drawn0.refl _ | apply Drawn0.step)⟩
end Go.Proofs.Ytipphcjgdebecaa.PA
