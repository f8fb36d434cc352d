/- What functions of the program answer. No condition. -/
import Derived.Test.YtipphcjgdebecaaProg
import Derived.Below
import Derived.Deep.Draws
import Derived.Deep.AppendLies
import Derived.Maps.AppendAt
import Derived.OwnWalk
import Derived.Laws.BytesArg
import Derived.Laws.MakeOwn
import Derived.Laws.OwnMore
import Derived.Deep.OwnRows
import Derived.Tactics
import Derived.Lib.ConvBytes
import Derived.Laws.Slices
import Derived.WalkKit
import Derived.KernelRfl
import Derived.RowKit3
import Derived.Deep.LoopGhost
import Derived.Deep.QuietTactic
import Derived.BigQuiet
import Derived.WideLaws
import Derived.Deep.DeepCutAuto
import Derived.Deep.CutBlock
import Derived.Deep.RegionHeld3
import Derived.Laws.Rows
import Derived.Lib.AppendStr
import Derived.ArgAppend
import Derived.Laws.IdiomCopy
import Derived.OrdersHeld
import Derived.Laws.BitsLemmas
import Derived.RowKit
import Derived.RangeFuncNested
import Derived.RangeFuncBound
import Derived.RangeFuncCalls
import Derived.RangeFuncLeaves
import Derived.RangeFuncBox
import Derived.Shelf.Abstract
import Derived.Shelf.RegionOpen
import Derived.OwnWalkIn
import Derived.TacticsInMore
import Derived.LoopNIn
import Derived.LoopIn
import Derived.Recover
import Derived.Defers
import Derived.WalkLawsBesides
import Derived.WalkSmall
import Derived.Test.YtipphcjgdebecaaSA
import Derived.Test.YtipphcjgdebecaaSB
set_option linter.all false
set_option maxRecDepth 100000
set_option maxHeartbeats 8000000
namespace Go.Proofs.Ytipphcjgdebecaa.PA
open Go.RowKit Go.Proofs.YtipphcjgdebecaaW.PrintWords Go.Proofs.YtipphcjgdebecaaW.PrintLast Go.Proofs.YtipphcjgdebecaaW.PrintMore
attribute [local go_sem] qas qau max_two min_two qao qap qat qav
section
theorem qz1 {w : World} {g t : Nat} {v0 : Value} {l : List Value} (h : w.heap[g]? = some (.cells (v0 :: l).toArray t (0, 0))) : (∀ i, w.frozen? ⟨g, i, none⟩ = false) ∧ w.cell? ⟨g, 0, none⟩ = some v0 := ⟨qac h, (qaa h 0).trans (by simp)⟩
theorem qz2 {w : World} {g t : Nat} {v0 v1 : Value} {l : List Value} (h : w.heap[g]? = some (.cells (v0 :: v1 :: l).toArray t (0, 0))) : (∀ i, w.frozen? ⟨g, i, none⟩ = false) ∧ w.cell? ⟨g, 0, none⟩ = some v0 ∧ w.cell? ⟨g, 1, none⟩ = some v1 := ⟨qac h, (qaa h 0).trans (by simp), (qaa h 1).trans (by simp)⟩
theorem qz3 {w : World} {g t : Nat} {v0 v1 v2 : Value} {l : List Value} (h : w.heap[g]? = some (.cells (v0 :: v1 :: v2 :: l).toArray t (0, 0))) : (∀ i, w.frozen? ⟨g, i, none⟩ = false) ∧ w.cell? ⟨g, 0, none⟩ = some v0 ∧ w.cell? ⟨g, 1, none⟩ = some v1 ∧ w.cell? ⟨g, 2, none⟩ = some v2 := ⟨qac h, (qaa h 0).trans (by simp), (qaa h 1).trans (by simp), (qaa h 2).trans (by simp)⟩
theorem qz4 {w : World} {g t : Nat} {v0 v1 v2 v3 : Value} {l : List Value} (h : w.heap[g]? = some (.cells (v0 :: v1 :: v2 :: v3 :: l).toArray t (0, 0))) : (∀ i, w.frozen? ⟨g, i, none⟩ = false) ∧ w.cell? ⟨g, 0, none⟩ = some v0 ∧ w.cell? ⟨g, 1, none⟩ = some v1 ∧ w.cell? ⟨g, 2, none⟩ = some v2 ∧ w.cell? ⟨g, 3, none⟩ = some v3 := ⟨qac h, (qaa h 0).trans (by simp), (qaa h 1).trans (by simp), (qaa h 2).trans (by simp), (qaa h 3).trans (by simp)⟩
theorem qz5 {w : World} {g t : Nat} {v0 v1 v2 v3 v4 : Value} {l : List Value} (h : w.heap[g]? = some (.cells (v0 :: v1 :: v2 :: v3 :: v4 :: l).toArray t (0, 0))) : (∀ i, w.frozen? ⟨g, i, none⟩ = false) ∧ w.cell? ⟨g, 0, none⟩ = some v0 ∧ w.cell? ⟨g, 1, none⟩ = some v1 ∧ w.cell? ⟨g, 2, none⟩ = some v2 ∧ w.cell? ⟨g, 3, none⟩ = some v3 ∧ w.cell? ⟨g, 4, none⟩ = some v4 := ⟨qac h, (qaa h 0).trans (by simp), (qaa h 1).trans (by simp), (qaa h 2).trans (by simp), (qaa h 3).trans (by simp), (qaa h 4).trans (by simp)⟩
theorem qz6 {w : World} {g t : Nat} {v0 v1 v2 v3 v4 v5 : Value} {l : List Value} (h : w.heap[g]? = some (.cells (v0 :: v1 :: v2 :: v3 :: v4 :: v5 :: l).toArray t (0, 0))) : (∀ i, w.frozen? ⟨g, i, none⟩ = false) ∧ w.cell? ⟨g, 0, none⟩ = some v0 ∧ w.cell? ⟨g, 1, none⟩ = some v1 ∧ w.cell? ⟨g, 2, none⟩ = some v2 ∧ w.cell? ⟨g, 3, none⟩ = some v3 ∧ w.cell? ⟨g, 4, none⟩ = some v4 ∧ w.cell? ⟨g, 5, none⟩ = some v5 := ⟨qac h, (qaa h 0).trans (by simp), (qaa h 1).trans (by simp), (qaa h 2).trans (by simp), (qaa h 3).trans (by simp), (qaa h 4).trans (by simp), (qaa h 5).trans (by simp)⟩
theorem qz7 {w : World} {g t : Nat} {v0 v1 v2 v3 v4 v5 v6 : Value} {l : List Value} (h : w.heap[g]? = some (.cells (v0 :: v1 :: v2 :: v3 :: v4 :: v5 :: v6 :: l).toArray t (0, 0))) : (∀ i, w.frozen? ⟨g, i, none⟩ = false) ∧ w.cell? ⟨g, 0, none⟩ = some v0 ∧ w.cell? ⟨g, 1, none⟩ = some v1 ∧ w.cell? ⟨g, 2, none⟩ = some v2 ∧ w.cell? ⟨g, 3, none⟩ = some v3 ∧ w.cell? ⟨g, 4, none⟩ = some v4 ∧ w.cell? ⟨g, 5, none⟩ = some v5 ∧ w.cell? ⟨g, 6, none⟩ = some v6 := ⟨qac h, (qaa h 0).trans (by simp), (qaa h 1).trans (by simp), (qaa h 2).trans (by simp), (qaa h 3).trans (by simp), (qaa h 4).trans (by simp), (qaa h 5).trans (by simp), (qaa h 6).trans (by simp)⟩
theorem qz8 {w : World} {g t : Nat} {v0 v1 v2 v3 v4 v5 v6 v7 : Value} {l : List Value} (h : w.heap[g]? = some (.cells (v0 :: v1 :: v2 :: v3 :: v4 :: v5 :: v6 :: v7 :: l).toArray t (0, 0))) : (∀ i, w.frozen? ⟨g, i, none⟩ = false) ∧ w.cell? ⟨g, 0, none⟩ = some v0 ∧ w.cell? ⟨g, 1, none⟩ = some v1 ∧ w.cell? ⟨g, 2, none⟩ = some v2 ∧ w.cell? ⟨g, 3, none⟩ = some v3 ∧ w.cell? ⟨g, 4, none⟩ = some v4 ∧ w.cell? ⟨g, 5, none⟩ = some v5 ∧ w.cell? ⟨g, 6, none⟩ = some v6 ∧ w.cell? ⟨g, 7, none⟩ = some v7 := ⟨qac h, (qaa h 0).trans (by simp), (qaa h 1).trans (by simp), (qaa h 2).trans (by simp), (qaa h 3).trans (by simp), (qaa h 4).trans (by simp), (qaa h 5).trans (by simp), (qaa h 6).trans (by simp), (qaa h 7).trans (by simp)⟩
theorem qz9 {w : World} {g t : Nat} {v0 v1 v2 v3 v4 v5 v6 v7 v8 : Value} {l : List Value} (h : w.heap[g]? = some (.cells (v0 :: v1 :: v2 :: v3 :: v4 :: v5 :: v6 :: v7 :: v8 :: l).toArray t (0, 0))) : (∀ i, w.frozen? ⟨g, i, none⟩ = false) ∧ w.cell? ⟨g, 0, none⟩ = some v0 ∧ w.cell? ⟨g, 1, none⟩ = some v1 ∧ w.cell? ⟨g, 2, none⟩ = some v2 ∧ w.cell? ⟨g, 3, none⟩ = some v3 ∧ w.cell? ⟨g, 4, none⟩ = some v4 ∧ w.cell? ⟨g, 5, none⟩ = some v5 ∧ w.cell? ⟨g, 6, none⟩ = some v6 ∧ w.cell? ⟨g, 7, none⟩ = some v7 ∧ w.cell? ⟨g, 8, none⟩ = some v8 := ⟨qac h, (qaa h 0).trans (by simp), (qaa h 1).trans (by simp), (qaa h 2).trans (by simp), (qaa h 3).trans (by simp), (qaa h 4).trans (by simp), (qaa h 5).trans (by simp), (qaa h 6).trans (by simp), (qaa h 7).trans (by simp), (qaa h 8).trans (by simp)⟩
theorem qz10 {w : World} {g t : Nat} {v0 v1 v2 v3 v4 v5 v6 v7 v8 v9 : Value} {l : List Value} (h : w.heap[g]? = some (.cells (v0 :: v1 :: v2 :: v3 :: v4 :: v5 :: v6 :: v7 :: v8 :: v9 :: l).toArray t (0, 0))) : (∀ i, w.frozen? ⟨g, i, none⟩ = false) ∧ w.cell? ⟨g, 0, none⟩ = some v0 ∧ w.cell? ⟨g, 1, none⟩ = some v1 ∧ w.cell? ⟨g, 2, none⟩ = some v2 ∧ w.cell? ⟨g, 3, none⟩ = some v3 ∧ w.cell? ⟨g, 4, none⟩ = some v4 ∧ w.cell? ⟨g, 5, none⟩ = some v5 ∧ w.cell? ⟨g, 6, none⟩ = some v6 ∧ w.cell? ⟨g, 7, none⟩ = some v7 ∧ w.cell? ⟨g, 8, none⟩ = some v8 ∧ w.cell? ⟨g, 9, none⟩ = some v9 := ⟨qac h, (qaa h 0).trans (by simp), (qaa h 1).trans (by simp), (qaa h 2).trans (by simp), (qaa h 3).trans (by simp), (qaa h 4).trans (by simp), (qaa h 5).trans (by simp), (qaa h 6).trans (by simp), (qaa h 7).trans (by simp), (qaa h 8).trans (by simp), (qaa h 9).trans (by simp)⟩
theorem qz11 {w : World} {g t : Nat} {v0 v1 v2 v3 v4 v5 v6 v7 v8 v9 v10 : Value} {l : List Value} (h : w.heap[g]? = some (.cells (v0 :: v1 :: v2 :: v3 :: v4 :: v5 :: v6 :: v7 :: v8 :: v9 :: v10 :: l).toArray t (0, 0))) : (∀ i, w.frozen? ⟨g, i, none⟩ = false) ∧ w.cell? ⟨g, 0, none⟩ = some v0 ∧ w.cell? ⟨g, 1, none⟩ = some v1 ∧ w.cell? ⟨g, 2, none⟩ = some v2 ∧ w.cell? ⟨g, 3, none⟩ = some v3 ∧ w.cell? ⟨g, 4, none⟩ = some v4 ∧ w.cell? ⟨g, 5, none⟩ = some v5 ∧ w.cell? ⟨g, 6, none⟩ = some v6 ∧ w.cell? ⟨g, 7, none⟩ = some v7 ∧ w.cell? ⟨g, 8, none⟩ = some v8 ∧ w.cell? ⟨g, 9, none⟩ = some v9 ∧ w.cell? ⟨g, 10, none⟩ = some v10 := ⟨qac h, (qaa h 0).trans (by simp), (qaa h 1).trans (by simp), (qaa h 2).trans (by simp), (qaa h 3).trans (by simp), (qaa h 4).trans (by simp), (qaa h 5).trans (by simp), (qaa h 6).trans (by simp), (qaa h 7).trans (by simp), (qaa h 8).trans (by simp), (qaa h 9).trans (by simp), (qaa h 10).trans (by simp)⟩
theorem qz12 {w : World} {g t : Nat} {v0 v1 v2 v3 v4 v5 v6 v7 v8 v9 v10 v11 : Value} {l : List Value} (h : w.heap[g]? = some (.cells (v0 :: v1 :: v2 :: v3 :: v4 :: v5 :: v6 :: v7 :: v8 :: v9 :: v10 :: v11 :: l).toArray t (0, 0))) : (∀ i, w.frozen? ⟨g, i, none⟩ = false) ∧ w.cell? ⟨g, 0, none⟩ = some v0 ∧ w.cell? ⟨g, 1, none⟩ = some v1 ∧ w.cell? ⟨g, 2, none⟩ = some v2 ∧ w.cell? ⟨g, 3, none⟩ = some v3 ∧ w.cell? ⟨g, 4, none⟩ = some v4 ∧ w.cell? ⟨g, 5, none⟩ = some v5 ∧ w.cell? ⟨g, 6, none⟩ = some v6 ∧ w.cell? ⟨g, 7, none⟩ = some v7 ∧ w.cell? ⟨g, 8, none⟩ = some v8 ∧ w.cell? ⟨g, 9, none⟩ = some v9 ∧ w.cell? ⟨g, 10, none⟩ = some v10 ∧ w.cell? ⟨g, 11, none⟩ = some v11 := ⟨qac h, (qaa h 0).trans (by simp), (qaa h 1).trans (by simp), (qaa h 2).trans (by simp), (qaa h 3).trans (by simp), (qaa h 4).trans (by simp), (qaa h 5).trans (by simp), (qaa h 6).trans (by simp), (qaa h 7).trans (by simp), (qaa h 8).trans (by simp), (qaa h 9).trans (by simp), (qaa h 10).trans (by simp), (qaa h 11).trans (by simp)⟩
end
section
variable {P : Program} {md : Region.Mode} {ops : Array Oper} {Q : Exit → Act → World → Prop} {S : World → Prop} {ds : List Nat}
theorem zp {n i : Nat} {N : Option Tmp} {oi : Oper} {v : Value} {fuel : Nat} {a : Act} {w : World} (hi : ops[i]? = some oi) (hN : oi.dst = N) (hc : anyB md ops (msk n i) (msk n (i + 1)) i = true)
    (hQ : ∀ c a w, Q (.panic c) (a.put oi.dst v) w → Q (.panic c) a w) (hy : Yields P ops oi v a) {a' : Act} (ha : a.put N v = a')
    (h : wpAnyLast P md ops Q S ds fuel (msk n (i + 1)) a' w) : wpAnyLast P md ops Q S ds (fuel + 1) (msk n i) a w := pure_ _ hi hN hc hQ hy ha h
end

def errW : Option Int → Value
 | none => .nilIface
 | some c => .iface 0 (.int .i64 c)
theorem errW_none : errW none = .nilIface := rfl
theorem errW_some (c : Int) : errW (some c) = .iface 0 (.int .i64 c) := rfl
theorem info3 : (Try.prog.info? 3).map (fun i => (i.zero, i.size, i.bytes)) = some (some (.int .i64 0), 1, 8) := by kernel_rfl
theorem info37 : (Try.prog.info? 37).map (fun i => (i.zero, i.size, i.bytes)) = some (some (.agg #[(.int .i64 0), (.int .i64 0)]), 2, 16) := by kernel_rfl
theorem info39 : (Try.prog.info? 39).map (fun i => (i.zero, i.size, i.bytes)) = some (some (.agg #[(.int .i64 0), (.int .i64 0), (.int .i64 0), (.int .i64 0), (.int .i64 0), (.int .i64 0), (.int .i64 0), (.int .i64 0), (.int .i64 0), (.int .i64 0), (.int .i64 0), (.int .i64 0)]), 12, 96) := by kernel_rfl
theorem info47 : (Try.prog.info? 47).map (fun i => (i.zero, i.size, i.bytes)) = some (some (.slice none 0 0), 1, 24) := by kernel_rfl
def rd_L1 (xs : List (List Int)) (i : Int) : (List Int) := xs.getD i.toNat ([] : List Int)
theorem at_L1 {w : World} {A : Option Addr} {n : Nat} {xs : List (List Int)} (h : Kd.C (Kd.slice 3 (Kd.int .i64)) w A n xs) (i : Int) (h0 : 0 ≤ i) (h1 : i < n) : ∃ ad A0 c0, A = some ad ∧ w.cell? (ad.add i.toNat) = some (.slice A0 (rd_L1 xs i).length c0) ∧ (rd_L1 xs i).length ≤ c0 ∧ (Kd.int .i64).C w A0 (rd_L1 xs i).length (rd_L1 xs i) := by
 obtain ⟨ad, c, e, _, hK, hc0⟩ := Kd.C_get h ([] : List Int) i h0 h1
 have hc : ∀ j u, c[j]? = some u → w.cell? (ad.add (i.toNat * 1 + j)) = some u := hc0
 obtain ⟨A0, c0, rfl, l0, g0⟩ := hK
 exact ⟨ad, A0, c0, e, by have hq := hc 0 _ rfl; rwa [Nat.mul_one, Nat.add_zero] at hq, l0, g0⟩
structure S37 where
 f0 : Int
 f1 : Int
def z37 : S37 := ⟨(0 : Int), (0 : Int)⟩
def k37 : Kd S37 := Kd.iso (Kd.pair (Kd.int .i64) (Kd.int .i64)) (fun x : S37 => (x.f0, x.f1))
theorem k37_open {w : World} {x : S37} {cs : List Value} (h : k37.K w x cs) : cs = [.int .i64 x.f0, .int .i64 x.f1] := by
 obtain ⟨_, _, rfl, rfl, rfl⟩ := h
 exact rfl
theorem k37_mkM (w : World) (base : Nat) (ok : Nat → Prop) (x : S37)  : k37.M w base ok x [.int .i64 x.f0, .int .i64 x.f1] := ⟨[.int .i64 x.f0], [.int .i64 x.f1], rfl, rfl, rfl⟩
def rd_T37 (xs : List S37) (i : Int) : S37 := xs.getD i.toNat z37
theorem at_T37 {w : World} {A : Option Addr} {n : Nat} {xs : List S37} (h : Kd.C k37 w A n xs) (i : Int) (h0 : 0 ≤ i) (h1 : i < n) : ∃ ad , A = some ad ∧ w.cell? (ad.add (i.toNat * 2)) = some (.int .i64 (rd_T37 xs i).f0) ∧ w.cell? ⟨(ad.add (i.toNat * 2)).block, (ad.add (i.toNat * 2)).off + 1, none⟩ = some (.int .i64 (rd_T37 xs i).f1) := by
 obtain ⟨ad, c, e, _, hK, hc0⟩ := Kd.C_get h z37 i h0 h1
 have hc : ∀ j u, c[j]? = some u → w.cell? (ad.add (i.toNat * 2 + j)) = some u := hc0
 obtain rfl := k37_open hK
 exact ⟨ad, e, hc 0 _ rfl, by rw [← add_field _ _ 1 (by omega)]; exact hc 1 _ rfl⟩
structure S39 where
 f0 : S37
 f1 : S37
 f2 : S37
 f3 : Int
 f4 : Int
 f5 : Int
 f6 : Int
 f7 : S37
def z39 : S39 := ⟨z37, z37, z37, (0 : Int), (0 : Int), (0 : Int), (0 : Int), z37⟩
def k39 : Kd S39 := Kd.iso (Kd.pair k37 (Kd.pair k37 (Kd.pair k37 (Kd.pair (Kd.int .i64) (Kd.pair (Kd.int .i64) (Kd.pair (Kd.int .i64) (Kd.pair (Kd.int .i64) k37))))))) (fun x : S39 => (x.f0, x.f1, x.f2, x.f3, x.f4, x.f5, x.f6, x.f7))
theorem k39_open {w : World} {x : S39} {cs : List Value} (h : k39.K w x cs) : cs = [.int .i64 x.f0.f0, .int .i64 x.f0.f1, .int .i64 x.f1.f0, .int .i64 x.f1.f1, .int .i64 x.f2.f0, .int .i64 x.f2.f1, .int .i64 x.f3, .int .i64 x.f4, .int .i64 x.f5, .int .i64 x.f6, .int .i64 x.f7.f0, .int .i64 x.f7.f1] := by
 obtain ⟨_, _, rfl, s0, ⟨_, _, rfl, s2, ⟨_, _, rfl, s4, ⟨_, _, rfl, rfl, ⟨_, _, rfl, rfl, ⟨_, _, rfl, rfl, ⟨_, _, rfl, rfl, s10⟩⟩⟩⟩⟩⟩⟩ := h
 obtain rfl := k37_open s0
 obtain rfl := k37_open s2
 obtain rfl := k37_open s4
 obtain rfl := k37_open s10
 exact rfl
theorem k39_mkM (w : World) (base : Nat) (ok : Nat → Prop) (x : S39)  : k39.M w base ok x [.int .i64 x.f0.f0, .int .i64 x.f0.f1, .int .i64 x.f1.f0, .int .i64 x.f1.f1, .int .i64 x.f2.f0, .int .i64 x.f2.f1, .int .i64 x.f3, .int .i64 x.f4, .int .i64 x.f5, .int .i64 x.f6, .int .i64 x.f7.f0, .int .i64 x.f7.f1] := ⟨[.int .i64 x.f0.f0, .int .i64 x.f0.f1], [.int .i64 x.f1.f0, .int .i64 x.f1.f1, .int .i64 x.f2.f0, .int .i64 x.f2.f1, .int .i64 x.f3, .int .i64 x.f4, .int .i64 x.f5, .int .i64 x.f6, .int .i64 x.f7.f0, .int .i64 x.f7.f1], rfl, (k37_mkM w base ok x.f0 ), ⟨[.int .i64 x.f1.f0, .int .i64 x.f1.f1], [.int .i64 x.f2.f0, .int .i64 x.f2.f1, .int .i64 x.f3, .int .i64 x.f4, .int .i64 x.f5, .int .i64 x.f6, .int .i64 x.f7.f0, .int .i64 x.f7.f1], rfl, (k37_mkM w base ok x.f1 ), ⟨[.int .i64 x.f2.f0, .int .i64 x.f2.f1], [.int .i64 x.f3, .int .i64 x.f4, .int .i64 x.f5, .int .i64 x.f6, .int .i64 x.f7.f0, .int .i64 x.f7.f1], rfl, (k37_mkM w base ok x.f2 ), ⟨[.int .i64 x.f3], [.int .i64 x.f4, .int .i64 x.f5, .int .i64 x.f6, .int .i64 x.f7.f0, .int .i64 x.f7.f1], rfl, rfl, ⟨[.int .i64 x.f4], [.int .i64 x.f5, .int .i64 x.f6, .int .i64 x.f7.f0, .int .i64 x.f7.f1], rfl, rfl, ⟨[.int .i64 x.f5], [.int .i64 x.f6, .int .i64 x.f7.f0, .int .i64 x.f7.f1], rfl, rfl, ⟨[.int .i64 x.f6], [.int .i64 x.f7.f0, .int .i64 x.f7.f1], rfl, rfl, (k37_mkM w base ok x.f7 )⟩⟩⟩⟩⟩⟩⟩
def qaj (xs : List S39) (i : Int) : S39 := xs.getD i.toNat z39
theorem at_T39 {w : World} {A : Option Addr} {n : Nat} {xs : List S39} (h : Kd.C k39 w A n xs) (i : Int) (h0 : 0 ≤ i) (h1 : i < n) : ∃ ad , A = some ad ∧ w.cell? (ad.add (i.toNat * 12)) = some (.int .i64 (qaj xs i).f0.f0) ∧ w.cell? ⟨(ad.add (i.toNat * 12)).block, (ad.add (i.toNat * 12)).off + 1, none⟩ = some (.int .i64 (qaj xs i).f0.f1) ∧ w.cell? ⟨(ad.add (i.toNat * 12)).block, (ad.add (i.toNat * 12)).off + 2, none⟩ = some (.int .i64 (qaj xs i).f1.f0) ∧ w.cell? ⟨(ad.add (i.toNat * 12)).block, (ad.add (i.toNat * 12)).off + 3, none⟩ = some (.int .i64 (qaj xs i).f1.f1) ∧ w.cell? ⟨(ad.add (i.toNat * 12)).block, (ad.add (i.toNat * 12)).off + 4, none⟩ = some (.int .i64 (qaj xs i).f2.f0) ∧ w.cell? ⟨(ad.add (i.toNat * 12)).block, (ad.add (i.toNat * 12)).off + 5, none⟩ = some (.int .i64 (qaj xs i).f2.f1) ∧ w.cell? ⟨(ad.add (i.toNat * 12)).block, (ad.add (i.toNat * 12)).off + 6, none⟩ = some (.int .i64 (qaj xs i).f3) ∧ w.cell? ⟨(ad.add (i.toNat * 12)).block, (ad.add (i.toNat * 12)).off + 7, none⟩ = some (.int .i64 (qaj xs i).f4) ∧ w.cell? ⟨(ad.add (i.toNat * 12)).block, (ad.add (i.toNat * 12)).off + 8, none⟩ = some (.int .i64 (qaj xs i).f5) ∧ w.cell? ⟨(ad.add (i.toNat * 12)).block, (ad.add (i.toNat * 12)).off + 9, none⟩ = some (.int .i64 (qaj xs i).f6) ∧ w.cell? ⟨(ad.add (i.toNat * 12)).block, (ad.add (i.toNat * 12)).off + 10, none⟩ = some (.int .i64 (qaj xs i).f7.f0) ∧ w.cell? ⟨(ad.add (i.toNat * 12)).block, (ad.add (i.toNat * 12)).off + 11, none⟩ = some (.int .i64 (qaj xs i).f7.f1) := by
 obtain ⟨ad, c, e, _, hK, hc0⟩ := Kd.C_get h z39 i h0 h1
 have hc : ∀ j u, c[j]? = some u → w.cell? (ad.add (i.toNat * 12 + j)) = some u := hc0
 obtain rfl := k39_open hK
 exact ⟨ad, e, hc 0 _ rfl, by rw [← add_field _ _ 1 (by omega)]; exact hc 1 _ rfl, by rw [← add_field _ _ 2 (by omega)]; exact hc 2 _ rfl, by rw [← add_field _ _ 3 (by omega)]; exact hc 3 _ rfl, by rw [← add_field _ _ 4 (by omega)]; exact hc 4 _ rfl, by rw [← add_field _ _ 5 (by omega)]; exact hc 5 _ rfl, by rw [← add_field _ _ 6 (by omega)]; exact hc 6 _ rfl, by rw [← add_field _ _ 7 (by omega)]; exact hc 7 _ rfl, by rw [← add_field _ _ 8 (by omega)]; exact hc 8 _ rfl, by rw [← add_field _ _ 9 (by omega)]; exact hc 9 _ rfl, by rw [← add_field _ _ 10 (by omega)]; exact hc 10 _ rfl, by rw [← add_field _ _ 11 (by omega)]; exact hc 11 _ rfl⟩
structure S44 where
 f0 : Int
 f1 : Int
 f2 : Bool
def z44 : S44 := ⟨(0 : Int), (0 : Int), false⟩
def k44 : Kd S44 := Kd.iso (Kd.pair (Kd.int .i64) (Kd.pair (Kd.int .i64) Kd.bool)) (fun x : S44 => (x.f0, x.f1, x.f2))
theorem k44_open {w : World} {x : S44} {cs : List Value} (h : k44.K w x cs) : cs = [.int .i64 x.f0, .int .i64 x.f1, .bool x.f2] := by
 obtain ⟨_, _, rfl, rfl, ⟨_, _, rfl, rfl, rfl⟩⟩ := h
 exact rfl
theorem k44_mkM (w : World) (base : Nat) (ok : Nat → Prop) (x : S44)  : k44.M w base ok x [.int .i64 x.f0, .int .i64 x.f1, .bool x.f2] := ⟨[.int .i64 x.f0], [.int .i64 x.f1, .bool x.f2], rfl, rfl, ⟨[.int .i64 x.f1], [.bool x.f2], rfl, rfl, rfl⟩⟩
def rd_T44 (xs : List S44) (i : Int) : S44 := xs.getD i.toNat z44
theorem at_T44 {w : World} {A : Option Addr} {n : Nat} {xs : List S44} (h : Kd.C k44 w A n xs) (i : Int) (h0 : 0 ≤ i) (h1 : i < n) : ∃ ad , A = some ad ∧ w.cell? (ad.add (i.toNat * 3)) = some (.int .i64 (rd_T44 xs i).f0) ∧ w.cell? ⟨(ad.add (i.toNat * 3)).block, (ad.add (i.toNat * 3)).off + 1, none⟩ = some (.int .i64 (rd_T44 xs i).f1) ∧ w.cell? ⟨(ad.add (i.toNat * 3)).block, (ad.add (i.toNat * 3)).off + 2, none⟩ = some (.bool (rd_T44 xs i).f2) := by
 obtain ⟨ad, c, e, _, hK, hc0⟩ := Kd.C_get h z44 i h0 h1
 have hc : ∀ j u, c[j]? = some u → w.cell? (ad.add (i.toNat * 3 + j)) = some u := hc0
 obtain rfl := k44_open hK
 exact ⟨ad, e, hc 0 _ rfl, by rw [← add_field _ _ 1 (by omega)]; exact hc 1 _ rfl, by rw [← add_field _ _ 2 (by omega)]; exact hc 2 _ rfl⟩
def idxI {α : Type} (p : α → Bool) (l : List α) : Int := match l.findIdx? p with | some i => (i : Int) | none => -1
theorem idxI_some {α : Type} (p : α → Bool) (l : List α) (d : α) (k : Nat) (hk : k < l.length) (hn : ∀ j, j < k → p (l.getD j d) = false) (h : p (l.getD k d) = true) : idxI p l = (k : Int) := by
 have : l.findIdx? p = some k := by
  rw [List.findIdx?_eq_some_iff_getElem]
  refine ⟨hk, by simpa [hk] using h, fun j hj => ?_⟩
  have := hn j hj
  simp [show j < l.length by omega] at this
  simp [this]
 simp [idxI, this]
theorem idxI_none {α : Type} (p : α → Bool) (l : List α) (d : α) (hn : ∀ j, j < l.length → p (l.getD j d) = false) : idxI p l = -1 := by
 have : l.findIdx? p = none := by
  rw [List.findIdx?_eq_none_iff]
  intro x hx
  obtain ⟨j, hj, rfl⟩ := List.mem_iff_getElem.1 hx
  have := hn j hj
  simpa [hj] using this
 simp [idxI, this]
theorem idxI_any {α : Type} (p : α → Bool) (l : List α) : decide (0 ≤ idxI p l) = l.any p := by
 unfold idxI
 cases h : l.findIdx? p with
 | none =>
  rw [List.findIdx?_eq_none_iff] at h
  have : l.any p = false := by simpa using h
  simp [this]
 | some i =>
  rw [List.findIdx?_eq_some_iff_getElem] at h
  obtain ⟨hi, hp, _⟩ := h
  have : l.any p = true := List.any_eq_true.2 ⟨l[i], List.getElem_mem _, hp⟩
  simp [this]
theorem R_shape {α : Type} {d : Kd α} {e : Nat} {w : World} {base : Nat} {ok : Nat → Prop} {v : Value} {xs : List α} (h : d.R e w base ok v xs) : ∃ A n c, v = .slice A n c := by
 obtain ⟨A, c, e⟩ := Kd.R_slice h
 exact ⟨A, _, c, e⟩
theorem idx82 (l : List Int) (A : Option Addr) (c : Nat) (p : Int → Bool) (w : World) (hr : Kd.C (Kd.int .i64) w A l.length l) (hq : ∀ (i : Int) (W : World), 0 ≤ i → i < l.length → Below w.heap.size w W → Calls Try.prog 82 #[.int .i64 (rd l i)] W fun e w' => e = .returned (.bool (p (rd l i))) ∧ Below W.heap.size W w') :
  Calls Try.prog 100 #[.slice A l.length c, .func (.func 82) #[] #[]] w fun e w' => e = .returned (.int .i64 (idxI p l)) ∧ Below w.heap.size w w' := by
 have hm := Kd.C_max hr
 have HR := qab.mk hr
 have HQ := qab.mk hq
 clear hr hq
 go_enter Try.func100, Try.ntmps100
 go_wp2
 go_loopw [8] (fun s8 wr => ∃ k : Nat, k ≤ l.length ∧ s8 = .int .i64 k ∧ qab (∀ j : Nat, j < k → p (l.getD j 0) = false) ∧ qab (Below w.heap.size w wr)) (fun s8 _ => l.length - (intOf s8).toNat)
 case atStart => exact ⟨0, by omega, rfl, ⟨fun j h1 => by omega⟩, ⟨Below.refl _ _⟩⟩
 case round =>
  obtain ⟨k, hk1, rfl, HN, HB⟩ := hrel
  by_cases hlt : k < l.length
  ·
   obtain ⟨ad, e, hc⟩ := Kd.at_int HR.out k (by omega) (by omega)
   cases e
   have hc' : wr.cell? (ad.add k) = some (.int .i64 (rd l k)) := (HB.out.cell (World.block_lt_of_cell? w _ hc)).trans hc
   clear hc
   cases hp : p (rd l k) with
   | true =>
    have HP := qab.mk hp
    clear hp
    go_wp2_with (go_at_call 82; refine (HQ.out k _ (by omega) (by omega) HB.out).mono ?_; rw [HP.out]; rintro e w1 ⟨rfl, hb⟩; have HB1 := qab.mk (qad HB.out hb); clear hb)
    go_ret
    exact ⟨by rw [idxI_some p l 0 k hlt HN.out (by simpa [rd] using HP.out)]; rfl, HB1.out⟩
   | false =>
    have HP := qab.mk hp
    clear hp
    go_wp2_with (go_at_call 82; refine (HQ.out k _ (by omega) (by omega) HB.out).mono ?_; rw [HP.out]; rintro e w1 ⟨rfl, hb⟩; have HB1 := qab.mk (qad HB.out hb); clear hb)
    go_roundw
    case rel => exact ⟨k + 1, by omega, by go_num, ⟨fun j hj => by
     rcases Nat.lt_or_ge j k with h | h
     ·
      exact HN.out j h
     ·
      obtain rfl : j = k := by omega
      simpa [rd] using HP.out⟩, HB1⟩
    case measure => simp [intOf]; omega
  ·
   go_wp2
   go_ret
   exact ⟨by rw [idxI_none p l 0 (fun j hj => HN.out j (by omega))]; rfl, HB.out⟩
theorem has82 (l : List Int) (A : Option Addr) (c : Nat) (p : Int → Bool) (w : World) (hr : Kd.C (Kd.int .i64) w A l.length l) (hq : ∀ (i : Int) (W : World), 0 ≤ i → i < l.length → Below w.heap.size w W → Calls Try.prog 82 #[.int .i64 (rd l i)] W fun e w' => e = .returned (.bool (p (rd l i))) ∧ Below W.heap.size W w') :
  Calls Try.prog 81 #[.slice A l.length c, .func (.func 82) #[] #[]] w fun e w' => e = .returned (.bool (l.any p)) ∧ Below w.heap.size w w' := by
 have HR := qab.mk hr
 have HQ := qab.mk hq
 clear hr hq
 go_enter Try.func81, Try.ntmps81
 go_wp2_with (go_at_call 100; refine (idx82  l A c p _ HR.out HQ.out).mono ?_; rintro e w1 ⟨rfl, hb⟩; have HB := qab.mk hb; clear hb)
 go_ret
 exact ⟨by rw [← idxI_any p l]; rfl, HB.out⟩
theorem idx84 (l : List S39) (A : Option Addr) (c : Nat) (p : S39 → Bool) (w : World) (hr : Kd.C k39 w A l.length l) (hq : ∀ (i : Int) (W : World), 0 ≤ i → i < l.length → Below w.heap.size w W → Calls Try.prog 84 #[.agg #[.int .i64 (qaj l i).f0.f0, .int .i64 (qaj l i).f0.f1, .int .i64 (qaj l i).f1.f0, .int .i64 (qaj l i).f1.f1, .int .i64 (qaj l i).f2.f0, .int .i64 (qaj l i).f2.f1, .int .i64 (qaj l i).f3, .int .i64 (qaj l i).f4, .int .i64 (qaj l i).f5, .int .i64 (qaj l i).f6, .int .i64 (qaj l i).f7.f0, .int .i64 (qaj l i).f7.f1]] W fun e w' => e = .returned (.bool (p (qaj l i))) ∧ Below W.heap.size W w') :
  Calls Try.prog 101 #[.slice A l.length c, .func (.func 84) #[] #[]] w fun e w' => e = .returned (.int .i64 (idxI p l)) ∧ Below w.heap.size w w' := by
 have hm := Kd.C_max hr
 have HR := qab.mk hr
 have HQ := qab.mk hq
 clear hr hq
 go_enter Try.func101, Try.ntmps101
 go_wp2
 go_loopw [8] (fun s8 wr => ∃ k : Nat, k ≤ l.length ∧ s8 = .int .i64 k ∧ qab (∀ j : Nat, j < k → p (l.getD j z39) = false) ∧ qab (Below w.heap.size w wr)) (fun s8 _ => l.length - (intOf s8).toNat)
 case atStart => exact ⟨0, by omega, rfl, ⟨fun j h1 => by omega⟩, ⟨Below.refl _ _⟩⟩
 case round =>
  obtain ⟨k, hk1, rfl, HN, HB⟩ := hrel
  by_cases hlt : k < l.length
  ·
   obtain ⟨ad, e, hc0, hc1, hc2, hc3, hc4, hc5, hc6, hc7, hc8, hc9, hc10, hc11⟩ := at_T39 HR.out k (by omega) (by omega)
   cases e
   replace hc0 := (HB.out.cell (World.block_lt_of_cell? w _ hc0)).trans hc0
   replace hc1 := (HB.out.cell (World.block_lt_of_cell? w _ hc1)).trans hc1
   replace hc2 := (HB.out.cell (World.block_lt_of_cell? w _ hc2)).trans hc2
   replace hc3 := (HB.out.cell (World.block_lt_of_cell? w _ hc3)).trans hc3
   replace hc4 := (HB.out.cell (World.block_lt_of_cell? w _ hc4)).trans hc4
   replace hc5 := (HB.out.cell (World.block_lt_of_cell? w _ hc5)).trans hc5
   replace hc6 := (HB.out.cell (World.block_lt_of_cell? w _ hc6)).trans hc6
   replace hc7 := (HB.out.cell (World.block_lt_of_cell? w _ hc7)).trans hc7
   replace hc8 := (HB.out.cell (World.block_lt_of_cell? w _ hc8)).trans hc8
   replace hc9 := (HB.out.cell (World.block_lt_of_cell? w _ hc9)).trans hc9
   replace hc10 := (HB.out.cell (World.block_lt_of_cell? w _ hc10)).trans hc10
   replace hc11 := (HB.out.cell (World.block_lt_of_cell? w _ hc11)).trans hc11
   simp only [Int.toNat_natCast] at hc0 hc1 hc2 hc3 hc4 hc5 hc6 hc7 hc8 hc9 hc10 hc11
   have hu39 := Try.underlying39
   cases hp : p (qaj l k) with
   | true =>
    have HP := qab.mk hp
    clear hp
    go_wp2_with (go_at_call 84; refine (HQ.out k _ (by omega) (by omega) HB.out).mono ?_; rw [HP.out]; rintro e w1 ⟨rfl, hb⟩; have HB1 := qab.mk (qad HB.out hb); clear hb)
    go_ret
    exact ⟨by rw [idxI_some p l z39 k hlt HN.out (by simpa [qaj] using HP.out)]; rfl, HB1.out⟩
   | false =>
    have HP := qab.mk hp
    clear hp
    go_wp2_with (go_at_call 84; refine (HQ.out k _ (by omega) (by omega) HB.out).mono ?_; rw [HP.out]; rintro e w1 ⟨rfl, hb⟩; have HB1 := qab.mk (qad HB.out hb); clear hb)
    go_roundw
    case rel => exact ⟨k + 1, by omega, by go_num, ⟨fun j hj => by
     rcases Nat.lt_or_ge j k with h | h
     ·
      exact HN.out j h
     ·
      obtain rfl : j = k := by omega
      simpa [qaj] using HP.out⟩, HB1⟩
    case measure => simp [intOf]; omega
  ·
   go_wp2
   go_ret
   exact ⟨by rw [idxI_none p l z39 (fun j hj => HN.out j (by omega))]; rfl, HB.out⟩
theorem has84 (l : List S39) (A : Option Addr) (c : Nat) (p : S39 → Bool) (w : World) (hr : Kd.C k39 w A l.length l) (hq : ∀ (i : Int) (W : World), 0 ≤ i → i < l.length → Below w.heap.size w W → Calls Try.prog 84 #[.agg #[.int .i64 (qaj l i).f0.f0, .int .i64 (qaj l i).f0.f1, .int .i64 (qaj l i).f1.f0, .int .i64 (qaj l i).f1.f1, .int .i64 (qaj l i).f2.f0, .int .i64 (qaj l i).f2.f1, .int .i64 (qaj l i).f3, .int .i64 (qaj l i).f4, .int .i64 (qaj l i).f5, .int .i64 (qaj l i).f6, .int .i64 (qaj l i).f7.f0, .int .i64 (qaj l i).f7.f1]] W fun e w' => e = .returned (.bool (p (qaj l i))) ∧ Below W.heap.size W w') :
  Calls Try.prog 83 #[.slice A l.length c, .func (.func 84) #[] #[]] w fun e w' => e = .returned (.bool (l.any p)) ∧ Below w.heap.size w w' := by
 have HR := qab.mk hr
 have HQ := qab.mk hq
 clear hr hq
 go_enter Try.func83, Try.ntmps83
 go_wp2_with (go_at_call 101; refine (idx84  l A c p _ HR.out HQ.out).mono ?_; rintro e w1 ⟨rfl, hb⟩; have HB := qab.mk hb; clear hb)
 go_ret
 exact ⟨by rw [← idxI_any p l]; rfl, HB.out⟩
theorem idx87 (l : List S37) (A : Option Addr) (c : Nat) (p : S37 → Bool) (w : World) (hr : Kd.C k37 w A l.length l) (hq : ∀ (i : Int) (W : World), 0 ≤ i → i < l.length → Below w.heap.size w W → Calls Try.prog 87 #[.agg #[.int .i64 (rd_T37 l i).f0, .int .i64 (rd_T37 l i).f1]] W fun e w' => e = .returned (.bool (p (rd_T37 l i))) ∧ Below W.heap.size W w') :
  Calls Try.prog 102 #[.slice A l.length c, .func (.func 87) #[] #[]] w fun e w' => e = .returned (.int .i64 (idxI p l)) ∧ Below w.heap.size w w' := by
 have hm := Kd.C_max hr
 have HR := qab.mk hr
 have HQ := qab.mk hq
 clear hr hq
 go_enter Try.func102, Try.ntmps102
 go_wp2
 go_loopw [8] (fun s8 wr => ∃ k : Nat, k ≤ l.length ∧ s8 = .int .i64 k ∧ qab (∀ j : Nat, j < k → p (l.getD j z37) = false) ∧ qab (Below w.heap.size w wr)) (fun s8 _ => l.length - (intOf s8).toNat)
 case atStart => exact ⟨0, by omega, rfl, ⟨fun j h1 => by omega⟩, ⟨Below.refl _ _⟩⟩
 case round =>
  obtain ⟨k, hk1, rfl, HN, HB⟩ := hrel
  by_cases hlt : k < l.length
  ·
   obtain ⟨ad, e, hc0, hc1⟩ := at_T37 HR.out k (by omega) (by omega)
   cases e
   replace hc0 := (HB.out.cell (World.block_lt_of_cell? w _ hc0)).trans hc0
   replace hc1 := (HB.out.cell (World.block_lt_of_cell? w _ hc1)).trans hc1
   simp only [Int.toNat_natCast] at hc0 hc1
   have hu37 := Try.underlying37
   cases hp : p (rd_T37 l k) with
   | true =>
    have HP := qab.mk hp
    clear hp
    go_wp2_with (go_at_call 87; refine (HQ.out k _ (by omega) (by omega) HB.out).mono ?_; rw [HP.out]; rintro e w1 ⟨rfl, hb⟩; have HB1 := qab.mk (qad HB.out hb); clear hb)
    go_ret
    exact ⟨by rw [idxI_some p l z37 k hlt HN.out (by simpa [rd_T37] using HP.out)]; rfl, HB1.out⟩
   | false =>
    have HP := qab.mk hp
    clear hp
    go_wp2_with (go_at_call 87; refine (HQ.out k _ (by omega) (by omega) HB.out).mono ?_; rw [HP.out]; rintro e w1 ⟨rfl, hb⟩; have HB1 := qab.mk (qad HB.out hb); clear hb)
    go_roundw
    case rel => exact ⟨k + 1, by omega, by go_num, ⟨fun j hj => by
     rcases Nat.lt_or_ge j k with h | h
     ·
      exact HN.out j h
     ·
      obtain rfl : j = k := by omega
      simpa [rd_T37] using HP.out⟩, HB1⟩
    case measure => simp [intOf]; omega
  ·
   go_wp2
   go_ret
   exact ⟨by rw [idxI_none p l z37 (fun j hj => HN.out j (by omega))]; rfl, HB.out⟩
theorem has87 (l : List S37) (A : Option Addr) (c : Nat) (p : S37 → Bool) (w : World) (hr : Kd.C k37 w A l.length l) (hq : ∀ (i : Int) (W : World), 0 ≤ i → i < l.length → Below w.heap.size w W → Calls Try.prog 87 #[.agg #[.int .i64 (rd_T37 l i).f0, .int .i64 (rd_T37 l i).f1]] W fun e w' => e = .returned (.bool (p (rd_T37 l i))) ∧ Below W.heap.size W w') :
  Calls Try.prog 86 #[.slice A l.length c, .func (.func 87) #[] #[]] w fun e w' => e = .returned (.bool (l.any p)) ∧ Below w.heap.size w w' := by
 have HR := qab.mk hr
 have HQ := qab.mk hq
 clear hr hq
 go_enter Try.func86, Try.ntmps86
 go_wp2_with (go_at_call 102; refine (idx87  l A c p _ HR.out HQ.out).mono ?_; rintro e w1 ⟨rfl, hb⟩; have HB := qab.mk hb; clear hb)
 go_ret
 exact ⟨by rw [← idxI_any p l]; rfl, HB.out⟩
theorem idx95 (p0 : Value) (l : List Int) (A : Option Addr) (c : Nat) (p : Int → Bool) (w : World) (hr : Kd.C (Kd.int .i64) w A l.length l) (hq : ∀ (i : Int) (W : World), 0 ≤ i → i < l.length → Below w.heap.size w W → Calls Try.prog 95 #[.int .i64 (rd l i), p0] W fun e w' => e = .returned (.bool (p (rd l i))) ∧ Below W.heap.size W w') :
  Calls Try.prog 100 #[.slice A l.length c, .func (.func 95) #[] #[p0]] w fun e w' => e = .returned (.int .i64 (idxI p l)) ∧ Below w.heap.size w w' := by
 have hm := Kd.C_max hr
 have HR := qab.mk hr
 have HQ := qab.mk hq
 clear hr hq
 go_enter Try.func100, Try.ntmps100
 go_wp2
 go_loopw [8] (fun s8 wr => ∃ k : Nat, k ≤ l.length ∧ s8 = .int .i64 k ∧ qab (∀ j : Nat, j < k → p (l.getD j 0) = false) ∧ qab (Below w.heap.size w wr)) (fun s8 _ => l.length - (intOf s8).toNat)
 case atStart => exact ⟨0, by omega, rfl, ⟨fun j h1 => by omega⟩, ⟨Below.refl _ _⟩⟩
 case round =>
  obtain ⟨k, hk1, rfl, HN, HB⟩ := hrel
  by_cases hlt : k < l.length
  ·
   obtain ⟨ad, e, hc⟩ := Kd.at_int HR.out k (by omega) (by omega)
   cases e
   have hc' : wr.cell? (ad.add k) = some (.int .i64 (rd l k)) := (HB.out.cell (World.block_lt_of_cell? w _ hc)).trans hc
   clear hc
   cases hp : p (rd l k) with
   | true =>
    have HP := qab.mk hp
    clear hp
    go_wp2_with (go_at_call 95; refine (HQ.out k _ (by omega) (by omega) HB.out).mono ?_; rw [HP.out]; rintro e w1 ⟨rfl, hb⟩; have HB1 := qab.mk (qad HB.out hb); clear hb)
    go_ret
    exact ⟨by rw [idxI_some p l 0 k hlt HN.out (by simpa [rd] using HP.out)]; rfl, HB1.out⟩
   | false =>
    have HP := qab.mk hp
    clear hp
    go_wp2_with (go_at_call 95; refine (HQ.out k _ (by omega) (by omega) HB.out).mono ?_; rw [HP.out]; rintro e w1 ⟨rfl, hb⟩; have HB1 := qab.mk (qad HB.out hb); clear hb)
    go_roundw
    case rel => exact ⟨k + 1, by omega, by go_num, ⟨fun j hj => by
     rcases Nat.lt_or_ge j k with h | h
     ·
      exact HN.out j h
     ·
      obtain rfl : j = k := by omega
      simpa [rd] using HP.out⟩, HB1⟩
    case measure => simp [intOf]; omega
  ·
   go_wp2
   go_ret
   exact ⟨by rw [idxI_none p l 0 (fun j hj => HN.out j (by omega))]; rfl, HB.out⟩
theorem has95 (p0 : Value) (l : List Int) (A : Option Addr) (c : Nat) (p : Int → Bool) (w : World) (hr : Kd.C (Kd.int .i64) w A l.length l) (hq : ∀ (i : Int) (W : World), 0 ≤ i → i < l.length → Below w.heap.size w W → Calls Try.prog 95 #[.int .i64 (rd l i), p0] W fun e w' => e = .returned (.bool (p (rd l i))) ∧ Below W.heap.size W w') :
  Calls Try.prog 81 #[.slice A l.length c, .func (.func 95) #[] #[p0]] w fun e w' => e = .returned (.bool (l.any p)) ∧ Below w.heap.size w w' := by
 have HR := qab.mk hr
 have HQ := qab.mk hq
 clear hr hq
 go_enter Try.func81, Try.ntmps81
 go_wp2_with (go_at_call 100; refine (idx95 p0 l A c p _ HR.out HQ.out).mono ?_; rintro e w1 ⟨rfl, hb⟩; have HB := qab.mk hb; clear hb)
 go_ret
 exact ⟨by rw [← idxI_any p l]; rfl, HB.out⟩
def pipe_in.f (a0 : Int) (a1 : Int) (a2 : Int) : Option (Bool) := if a0 ≥ a1 then (some (decide (a0 ≤ a2))) else (some false)
theorem pipe_in.calls (a0 : Int) (a1 : Int) (a2 : Int) (r : Bool) (w : World) (h : pipe_in.f a0 a1 a2 = some r) :
  Calls Try.prog 55 #[.int .i64 a0, .int .i64 a1, .int .i64 a2] w fun e w' => e = .returned (.bool r) ∧ Drawn0 w w' := by
 have H : (if a0 ≥ a1 then (some (decide (a0 ≤ a2))) else (some false)) = some r := h
 clear h
 by_cases c4 : a0 ≥ a1
 ·
  rw [if_pos c4] at H
  have c4b0 : decide (a1 ≤ a0) = true := decide_eq_true c4
  clear c4
  obtain rfl := Option.some.inj H
  go_enter Try.func55, Try.ntmps55
  go_wp2
  go_ret
  exact ⟨by first | rfl | (simp; done) | (simp [*]; done), by repeat (first | exact Drawn0.refl _ | apply Drawn0.step)⟩
 ·
  rw [if_neg c4] at H
  have c4b0 : decide (a1 ≤ a0) = false := decide_eq_false c4
  clear c4
  obtain rfl := Option.some.inj H
  go_enter Try.func55, Try.ntmps55
  go_wp2
  go_ret
  exact ⟨by first | rfl | (simp; done) | (simp [*]; done), by repeat (first | exact Drawn0.refl _ | apply Drawn0.step)⟩
def pipe_valid_1.f (a0 : Int) : Option (Bool) := (pipe_in.f a0 0 72).bind fun t101 => (some (!t101))
theorem pipe_valid_1.calls (a0 : Int) (r : Bool) (w : World) (h : pipe_valid_1.f a0 = some r) :
  Calls Try.prog 82 #[.int .i64 a0] w fun e w' => e = .returned (.bool r) ∧ Drawn0 w w' := by
 have H : ((pipe_in.f a0 0 72).bind fun t101 => (some (!t101))) = some r := h
 clear h
 replace H := Option.bind_eq_some_iff.mp H
 obtain ⟨t101, A20, H⟩ := H
 replace H : (some (!t101)) = some r := H
 have A2 := qab.mk A20
 clear A20
 obtain rfl := Option.some.inj H
 go_enter Try.func82, Try.ntmps82
 go_wp2_with (first | ((with_reducible refine gate_callee (f := 55) rfl ?_); refine goesL_ (some 4) rfl rfl Try.func55 (by kernel_rfl) rfl #[.int .i64 a0, .int .i64 0, .int .i64 72] rfl (by (try simp only [List.map_toArray, List.map_cons, List.map_nil]); first | done | rfl | (simp only [List.length_drop, List.length_take]; rfl)) ?_; (with_reducible refine (pipe_in.calls a0 0 72 t101 _ A2.out).mono ?_); rintro e w' ⟨rfl, ⟨nd, rfl⟩⟩; refine ⟨_, rfl, ?_⟩))
 go_ret
 exact ⟨by first | rfl | (simp; done) | (simp [*]; done), by repeat (first | exact Drawn0.refl _ | apply Drawn0.step)⟩
def pipe_span.f (a0_0 : Int) (a0_1 : Int) (a1 : Int) (a2 : Int) : Option (Bool) := if a0_0 ≥ a1 then (if a0_0 ≤ a0_1 then (some (decide (a0_1 ≤ a2))) else (some false)) else (some false)
theorem pipe_span.calls (a0_0 : Int) (a0_1 : Int) (a1 : Int) (a2 : Int) (r : Bool) (w : World) (h : pipe_span.f a0_0 a0_1 a1 a2 = some r) :
  Calls Try.prog 88 #[.agg #[.int .i64 a0_0, .int .i64 a0_1], .int .i64 a1, .int .i64 a2] w fun e w' => e = .returned (.bool r) ∧ Below w.heap.size w w' := by
 have hu37 := Try.underlying37
 have HB := qab.mk (Below.refl w.heap.size w)
 have H : (if a0_0 ≥ a1 then (if a0_0 ≤ a0_1 then (some (decide (a0_1 ≤ a2))) else (some false)) else (some false)) = some r := h
 clear h
 by_cases c4 : a0_0 ≥ a1
 ·
  rw [if_pos c4] at H
  have c4b0 : decide (a1 ≤ a0_0) = true := decide_eq_true c4
  clear c4
  by_cases c5 : a0_0 ≤ a0_1
  ·
   rw [if_pos c5] at H
   have c5b0 : decide (a0_0 ≤ a0_1) = true := decide_eq_true c5
   clear c5
   obtain rfl := Option.some.inj H
   go_enter Try.func88, Try.ntmps88
   go_wp2_with (first | ((with_reducible refine qam (N := 3) rfl ?_); refine qal ?hg (N := 3) ?hd (cs := #[.int .i64 a0_0, .int .i64 a0_1]) (t := 37) ?hr ?_; (case hd => rfl); (case hg => rfl); (case hr => first | (go_simp; done) | (go_simp; rfl)); intro gb102 hg w6 hbox hb; have n0_ := qab.mk (qad (by repeat (first | (with_reducible first | exact HB.out | apply qag | apply qaf | apply qah) | exact HB.out)) hb); have n1_ := qab.mk (hbox); have n2_ := qab.mk ((by rw [hg]; exact (qar (by repeat (first | (with_reducible first | exact HB.out | apply qag | apply qaf | apply qah) | exact HB.out))) : w.heap.size ≤ gb102)); have n3_ := qab.mk ((by rw [hg]; exact (qar (by repeat (first | (with_reducible first | exact HB.out | apply qag | apply qaf | apply qah) | exact HB.out))) : w.heap.size ≤ gb102)); clear HB; have HB := n0_; have BK102 := n1_; have GW102 := n2_; have GE102 := n3_; clear n0_ n1_ n2_ n3_; clear hb hbox hg; have hcz7_0 : w6.cell? ⟨gb102, 0, none⟩ = some (.int .i64 a0_0) := (qaa BK102.out 0).trans rfl; have hcz7_1 : w6.cell? ⟨gb102, 1, none⟩ = some (.int .i64 a0_1) := (qaa BK102.out 1).trans rfl; have hfz7_0 := qac BK102.out 0; have hfz7_1 := qac BK102.out 1))
   go_ret
   exact ⟨by first | rfl | (simp [errW_none, errW_some] <;> rfl) | (simp [*, errW_none, errW_some] <;> rfl), by repeat (first | (with_reducible first | exact HB.out | apply qag | apply qaf | apply qah | refine qai ?_ GE102.out) | exact HB.out)⟩
  ·
   rw [if_neg c5] at H
   have c5b0 : decide (a0_0 ≤ a0_1) = false := decide_eq_false c5
   clear c5
   obtain rfl := Option.some.inj H
   go_enter Try.func88, Try.ntmps88
   go_wp2_with (first | ((with_reducible refine qam (N := 3) rfl ?_); refine qal ?hg (N := 3) ?hd (cs := #[.int .i64 a0_0, .int .i64 a0_1]) (t := 37) ?hr ?_; (case hd => rfl); (case hg => rfl); (case hr => first | (go_simp; done) | (go_simp; rfl)); intro gb102 hg w8 hbox hb; have n0_ := qab.mk (qad (by repeat (first | (with_reducible first | exact HB.out | apply qag | apply qaf | apply qah) | exact HB.out)) hb); have n1_ := qab.mk (hbox); have n2_ := qab.mk ((by rw [hg]; exact (qar (by repeat (first | (with_reducible first | exact HB.out | apply qag | apply qaf | apply qah) | exact HB.out))) : w.heap.size ≤ gb102)); have n3_ := qab.mk ((by rw [hg]; exact (qar (by repeat (first | (with_reducible first | exact HB.out | apply qag | apply qaf | apply qah) | exact HB.out))) : w.heap.size ≤ gb102)); clear HB; have HB := n0_; have BK102 := n1_; have GW102 := n2_; have GE102 := n3_; clear n0_ n1_ n2_ n3_; clear hb hbox hg; have hcz9_0 : w8.cell? ⟨gb102, 0, none⟩ = some (.int .i64 a0_0) := (qaa BK102.out 0).trans rfl; have hcz9_1 : w8.cell? ⟨gb102, 1, none⟩ = some (.int .i64 a0_1) := (qaa BK102.out 1).trans rfl; have hfz9_0 := qac BK102.out 0; have hfz9_1 := qac BK102.out 1))
   go_ret
   exact ⟨by first | rfl | (simp [errW_none, errW_some] <;> rfl) | (simp [*, errW_none, errW_some] <;> rfl), by repeat (first | (with_reducible first | exact HB.out | apply qag | apply qaf | apply qah | refine qai ?_ GE102.out) | exact HB.out)⟩
 ·
  rw [if_neg c4] at H
  have c4b0 : decide (a1 ≤ a0_0) = false := decide_eq_false c4
  clear c4
  obtain rfl := Option.some.inj H
  go_enter Try.func88, Try.ntmps88
  go_wp2_with (first | ((with_reducible refine qam (N := 3) rfl ?_); refine qal ?hg (N := 3) ?hd (cs := #[.int .i64 a0_0, .int .i64 a0_1]) (t := 37) ?hr ?_; (case hd => rfl); (case hg => rfl); (case hr => first | (go_simp; done) | (go_simp; rfl)); intro gb102 hg w10 hbox hb; have n0_ := qab.mk (qad (by repeat (first | (with_reducible first | exact HB.out | apply qag | apply qaf | apply qah) | exact HB.out)) hb); have n1_ := qab.mk (hbox); have n2_ := qab.mk ((by rw [hg]; exact (qar (by repeat (first | (with_reducible first | exact HB.out | apply qag | apply qaf | apply qah) | exact HB.out))) : w.heap.size ≤ gb102)); have n3_ := qab.mk ((by rw [hg]; exact (qar (by repeat (first | (with_reducible first | exact HB.out | apply qag | apply qaf | apply qah) | exact HB.out))) : w.heap.size ≤ gb102)); clear HB; have HB := n0_; have BK102 := n1_; have GW102 := n2_; have GE102 := n3_; clear n0_ n1_ n2_ n3_; clear hb hbox hg; have hcz11_0 : w10.cell? ⟨gb102, 0, none⟩ = some (.int .i64 a0_0) := (qaa BK102.out 0).trans rfl; have hcz11_1 : w10.cell? ⟨gb102, 1, none⟩ = some (.int .i64 a0_1) := (qaa BK102.out 1).trans rfl; have hfz11_0 := qac BK102.out 0; have hfz11_1 := qac BK102.out 1))
  go_ret
  exact ⟨by first | rfl | (simp [errW_none, errW_some] <;> rfl) | (simp [*, errW_none, errW_some] <;> rfl), by repeat (first | (with_reducible first | exact HB.out | apply qag | apply qaf | apply qah | refine qai ?_ GE102.out) | exact HB.out)⟩
theorem pipe_span_tot (a b lo hi : Int) : ∃ r, pipe_span.f a b lo hi = some r := by
 unfold pipe_span.f
 split
 ·
  split
  ·
   exact ⟨_, rfl⟩
  ·
   exact ⟨_, rfl⟩
 ·
  exact ⟨_, rfl⟩
theorem pipe_in_tot (a lo hi : Int) : ∃ r, pipe_in.f a lo hi = some r := by
 unfold pipe_in.f
 split
 ·
  exact ⟨_, rfl⟩
 ·
  exact ⟨_, rfl⟩
theorem pipe_span_to {f : Nat} {args : Array Value} {W : World} {r : Bool} (h : Calls Try.prog f args W fun e w' => e = .returned (.bool r) ∧ Below W.heap.size W w') : Calls Try.prog f args W fun e w' => e = .returned (.bool r) ∧ Below W.heap.size W w' := h
theorem pipe_in_to {f : Nat} {args : Array Value} {W : World} {r : Bool} (h : Calls Try.prog f args W fun e w' => e = .returned (.bool r) ∧ Drawn0 W w') : Calls Try.prog f args W fun e w' => e = .returned (.bool r) ∧ Below W.heap.size W w' := h.mono fun e w' ⟨h1, h2⟩ => ⟨h1, h2.below⟩
def pipe_loop.f (a0_0 : Int) (a0_1 : Int) (a0_2 : Int) (a0_3 : Int) (a0_4 : Int) (a0_5 : Int) (a0_6 : Int) (a0_7 : Int) (a0_8 : Int) (a0_9 : Int) (a0_10 : Int) (a0_11 : Int) : Option (Bool) := (pipe_span.f a0_0 a0_1 1 1000).bind fun t104 => (if t104 = true then ((pipe_span.f a0_2 a0_3 0 1000).bind fun t105 => (if t105 = true then ((pipe_span.f a0_4 a0_5 0 1000).bind fun t106 => (if t106 = true then (if a0_4 ≤ a0_2 then (if a0_5 ≤ a0_3 then ((pipe_in.f a0_6 0 1000000).bind fun t107 => (if t107 = true then ((pipe_in.f a0_7 1 10000).bind fun t108 => (if t108 = true then ((pipe_in.f a0_8 0 1000).bind fun t109 => (if t109 = true then ((pipe_in.f a0_9 0 1000).bind fun t110 => (if t110 = true then ((pipe_span.f a0_10 a0_11 0 72).bind fun t111 => (some t111)) else (some false))) else (some false))) else (some false))) else (some false))) else (some false)) else (some false)) else (some false))) else (some false))) else (some false))
theorem pipe_loop.calls (a0_0 : Int) (a0_1 : Int) (a0_2 : Int) (a0_3 : Int) (a0_4 : Int) (a0_5 : Int) (a0_6 : Int) (a0_7 : Int) (a0_8 : Int) (a0_9 : Int) (a0_10 : Int) (a0_11 : Int) (r : Bool) (w : World) (h : pipe_loop.f a0_0 a0_1 a0_2 a0_3 a0_4 a0_5 a0_6 a0_7 a0_8 a0_9 a0_10 a0_11 = some r) :
  Calls Try.prog 85 #[.agg #[.int .i64 a0_0, .int .i64 a0_1, .int .i64 a0_2, .int .i64 a0_3, .int .i64 a0_4, .int .i64 a0_5, .int .i64 a0_6, .int .i64 a0_7, .int .i64 a0_8, .int .i64 a0_9, .int .i64 a0_10, .int .i64 a0_11]] w fun e w' => e = .returned (.bool r) ∧ Below w.heap.size w w' := by
 obtain ⟨b1, e_b1⟩ := pipe_span_tot a0_0 a0_1 1 1000
 obtain ⟨b2, e_b2⟩ := pipe_span_tot a0_2 a0_3 0 1000
 obtain ⟨b3, e_b3⟩ := pipe_span_tot a0_4 a0_5 0 1000
 obtain ⟨b10, e_b10⟩ := pipe_span_tot a0_10 a0_11 0 72
 obtain ⟨b6, e_b6⟩ := pipe_in_tot a0_6 0 1000000
 obtain ⟨b7, e_b7⟩ := pipe_in_tot a0_7 1 10000
 obtain ⟨b8, e_b8⟩ := pipe_in_tot a0_8 0 1000
 obtain ⟨b9, e_b9⟩ := pipe_in_tot a0_9 0 1000
 unfold pipe_loop.f at h
 rw [e_b1, e_b2, e_b3, e_b6, e_b7, e_b8, e_b9, e_b10] at h
 simp only [Option.bind_some] at h
 have H_b1 : qab (∀ W, Calls Try.prog 88 #[.agg #[.int .i64 a0_0, .int .i64 a0_1], .int .i64 1, .int .i64 1000] W fun e w' => e = .returned (.bool b1) ∧ Below W.heap.size W w') := ⟨fun W => pipe_span_to (pipe_span.calls _ _ _ _ _ W e_b1)⟩
 have H_b2 : qab (∀ W, Calls Try.prog 88 #[.agg #[.int .i64 a0_2, .int .i64 a0_3], .int .i64 0, .int .i64 1000] W fun e w' => e = .returned (.bool b2) ∧ Below W.heap.size W w') := ⟨fun W => pipe_span_to (pipe_span.calls _ _ _ _ _ W e_b2)⟩
 have H_b3 : qab (∀ W, Calls Try.prog 88 #[.agg #[.int .i64 a0_4, .int .i64 a0_5], .int .i64 0, .int .i64 1000] W fun e w' => e = .returned (.bool b3) ∧ Below W.heap.size W w') := ⟨fun W => pipe_span_to (pipe_span.calls _ _ _ _ _ W e_b3)⟩
 have H_b10 : qab (∀ W, Calls Try.prog 88 #[.agg #[.int .i64 a0_10, .int .i64 a0_11], .int .i64 0, .int .i64 72] W fun e w' => e = .returned (.bool b10) ∧ Below W.heap.size W w') := ⟨fun W => pipe_span_to (pipe_span.calls _ _ _ _ _ W e_b10)⟩
 have H_b6 : qab (∀ W, Calls Try.prog 55 #[.int .i64 a0_6, .int .i64 0, .int .i64 1000000] W fun e w' => e = .returned (.bool b6) ∧ Below W.heap.size W w') := ⟨fun W => pipe_in_to (pipe_in.calls _ _ _ _ W e_b6)⟩
 have H_b7 : qab (∀ W, Calls Try.prog 55 #[.int .i64 a0_7, .int .i64 1, .int .i64 10000] W fun e w' => e = .returned (.bool b7) ∧ Below W.heap.size W w') := ⟨fun W => pipe_in_to (pipe_in.calls _ _ _ _ W e_b7)⟩
 have H_b8 : qab (∀ W, Calls Try.prog 55 #[.int .i64 a0_8, .int .i64 0, .int .i64 1000] W fun e w' => e = .returned (.bool b8) ∧ Below W.heap.size W w') := ⟨fun W => pipe_in_to (pipe_in.calls _ _ _ _ W e_b8)⟩
 have H_b9 : qab (∀ W, Calls Try.prog 55 #[.int .i64 a0_9, .int .i64 0, .int .i64 1000] W fun e w' => e = .returned (.bool b9) ∧ Below W.heap.size W w') := ⟨fun W => pipe_in_to (pipe_in.calls _ _ _ _ W e_b9)⟩
 clear e_b1 e_b2 e_b3 e_b6 e_b7 e_b8 e_b9 e_b10
 have hu39 := Try.underlying39
 have hu37 := Try.underlying37
 have HB := qab.mk (Below.refl w.heap.size w)
 cases b1; rotate_left; cases b2; rotate_left; cases b3; rotate_left; by_cases c4 : a0_4 ≤ a0_2; by_cases c5 : a0_5 ≤ a0_3; cases b6; rotate_left; cases b7; rotate_left; cases b8; rotate_left; cases b9; rotate_left; cases b10
 all_goals
  have hr : r = _ := Option.some.inj (Eq.symm (by first | exact h | (simp only [Bool.false_eq_true, if_true, if_false] at h; exact h) | (simp only [c4, Bool.false_eq_true, if_true, if_false] at h; exact h) | (simp only [c4, c5, Bool.false_eq_true, if_true, if_false] at h; exact h)))
  subst hr
  clear h
  go_enter Try.func85, Try.ntmps85
  go_wp2_with (first | ((with_reducible refine qam (N := 1) rfl ?_); refine qal ?hg (N := 1) ?hd (cs := #[.int .i64 a0_0, .int .i64 a0_1, .int .i64 a0_2, .int .i64 a0_3, .int .i64 a0_4, .int .i64 a0_5, .int .i64 a0_6, .int .i64 a0_7, .int .i64 a0_8, .int .i64 a0_9, .int .i64 a0_10, .int .i64 a0_11]) (t := 39) ?hr ?_; (case hd => rfl); (case hg => rfl); (case hr => first | (go_simp; done) | (go_simp; rfl)); intro gb hg_gb w2 hbox hb; have BKgb := qab.mk hbox; have n_HB := qab.mk (qad HB.out hb); have GEgb : w.heap.size ≤ gb := (by rw [hg_gb]; exact HB.out.size); clear HB; have HB := n_HB; clear n_HB; obtain ⟨hfgb, hcgb_0, hcgb_1, hcgb_2, hcgb_3, hcgb_4, hcgb_5, hcgb_6, hcgb_7, hcgb_8, hcgb_9, hcgb_10, hcgb_11⟩ := qz12 BKgb.out; clear hbox hb hg_gb; clear hfgb) | (go_at_call 88; with_reducible refine (H_b1.out _).mono ?_; rintro e w3 ⟨rfl, hb⟩; replace BKgb := qab.mk (qae BKgb.out hb); replace HB := qab.mk (qad HB.out hb); clear hb; have q2 : w3.cell? ⟨gb, 2, none⟩ = some (.int .i64 a0_2) := (qaa BKgb.out 2).trans rfl; have q3 : w3.cell? ⟨gb, 3, none⟩ = some (.int .i64 a0_3) := (qaa BKgb.out 3).trans rfl; have q4 : w3.cell? ⟨gb, 4, none⟩ = some (.int .i64 a0_4) := (qaa BKgb.out 4).trans rfl; have q5 : w3.cell? ⟨gb, 5, none⟩ = some (.int .i64 a0_5) := (qaa BKgb.out 5).trans rfl; have q6 : w3.cell? ⟨gb, 6, none⟩ = some (.int .i64 a0_6) := (qaa BKgb.out 6).trans rfl; have q7 : w3.cell? ⟨gb, 7, none⟩ = some (.int .i64 a0_7) := (qaa BKgb.out 7).trans rfl; have q8 : w3.cell? ⟨gb, 8, none⟩ = some (.int .i64 a0_8) := (qaa BKgb.out 8).trans rfl; have q9 : w3.cell? ⟨gb, 9, none⟩ = some (.int .i64 a0_9) := (qaa BKgb.out 9).trans rfl; have q10 : w3.cell? ⟨gb, 10, none⟩ = some (.int .i64 a0_10) := (qaa BKgb.out 10).trans rfl; have q11 : w3.cell? ⟨gb, 11, none⟩ = some (.int .i64 a0_11) := (qaa BKgb.out 11).trans rfl) | (go_at_call 88; with_reducible refine (H_b2.out _).mono ?_; rintro e w4 ⟨rfl, hb⟩; replace BKgb := qab.mk (qae BKgb.out hb); replace HB := qab.mk (qad HB.out hb); clear hb; have q2 : w4.cell? ⟨gb, 2, none⟩ = some (.int .i64 a0_2) := (qaa BKgb.out 2).trans rfl; have q3 : w4.cell? ⟨gb, 3, none⟩ = some (.int .i64 a0_3) := (qaa BKgb.out 3).trans rfl; have q4 : w4.cell? ⟨gb, 4, none⟩ = some (.int .i64 a0_4) := (qaa BKgb.out 4).trans rfl; have q5 : w4.cell? ⟨gb, 5, none⟩ = some (.int .i64 a0_5) := (qaa BKgb.out 5).trans rfl; have q6 : w4.cell? ⟨gb, 6, none⟩ = some (.int .i64 a0_6) := (qaa BKgb.out 6).trans rfl; have q7 : w4.cell? ⟨gb, 7, none⟩ = some (.int .i64 a0_7) := (qaa BKgb.out 7).trans rfl; have q8 : w4.cell? ⟨gb, 8, none⟩ = some (.int .i64 a0_8) := (qaa BKgb.out 8).trans rfl; have q9 : w4.cell? ⟨gb, 9, none⟩ = some (.int .i64 a0_9) := (qaa BKgb.out 9).trans rfl; have q10 : w4.cell? ⟨gb, 10, none⟩ = some (.int .i64 a0_10) := (qaa BKgb.out 10).trans rfl; have q11 : w4.cell? ⟨gb, 11, none⟩ = some (.int .i64 a0_11) := (qaa BKgb.out 11).trans rfl) | (go_at_call 88; with_reducible refine (H_b3.out _).mono ?_; rintro e w5 ⟨rfl, hb⟩; replace BKgb := qab.mk (qae BKgb.out hb); replace HB := qab.mk (qad HB.out hb); clear hb; have q2 : w5.cell? ⟨gb, 2, none⟩ = some (.int .i64 a0_2) := (qaa BKgb.out 2).trans rfl; have q3 : w5.cell? ⟨gb, 3, none⟩ = some (.int .i64 a0_3) := (qaa BKgb.out 3).trans rfl; have q4 : w5.cell? ⟨gb, 4, none⟩ = some (.int .i64 a0_4) := (qaa BKgb.out 4).trans rfl; have q5 : w5.cell? ⟨gb, 5, none⟩ = some (.int .i64 a0_5) := (qaa BKgb.out 5).trans rfl; have q6 : w5.cell? ⟨gb, 6, none⟩ = some (.int .i64 a0_6) := (qaa BKgb.out 6).trans rfl; have q7 : w5.cell? ⟨gb, 7, none⟩ = some (.int .i64 a0_7) := (qaa BKgb.out 7).trans rfl; have q8 : w5.cell? ⟨gb, 8, none⟩ = some (.int .i64 a0_8) := (qaa BKgb.out 8).trans rfl; have q9 : w5.cell? ⟨gb, 9, none⟩ = some (.int .i64 a0_9) := (qaa BKgb.out 9).trans rfl; have q10 : w5.cell? ⟨gb, 10, none⟩ = some (.int .i64 a0_10) := (qaa BKgb.out 10).trans rfl; have q11 : w5.cell? ⟨gb, 11, none⟩ = some (.int .i64 a0_11) := (qaa BKgb.out 11).trans rfl) | (go_at_call 55; with_reducible refine (H_b6.out _).mono ?_; rintro e w6 ⟨rfl, hb⟩; replace BKgb := qab.mk (qae BKgb.out hb); replace HB := qab.mk (qad HB.out hb); clear hb; have q7 : w6.cell? ⟨gb, 7, none⟩ = some (.int .i64 a0_7) := (qaa BKgb.out 7).trans rfl; have q8 : w6.cell? ⟨gb, 8, none⟩ = some (.int .i64 a0_8) := (qaa BKgb.out 8).trans rfl; have q9 : w6.cell? ⟨gb, 9, none⟩ = some (.int .i64 a0_9) := (qaa BKgb.out 9).trans rfl; have q10 : w6.cell? ⟨gb, 10, none⟩ = some (.int .i64 a0_10) := (qaa BKgb.out 10).trans rfl; have q11 : w6.cell? ⟨gb, 11, none⟩ = some (.int .i64 a0_11) := (qaa BKgb.out 11).trans rfl) | (go_at_call 55; with_reducible refine (H_b7.out _).mono ?_; rintro e w7 ⟨rfl, hb⟩; replace BKgb := qab.mk (qae BKgb.out hb); replace HB := qab.mk (qad HB.out hb); clear hb; have q8 : w7.cell? ⟨gb, 8, none⟩ = some (.int .i64 a0_8) := (qaa BKgb.out 8).trans rfl; have q9 : w7.cell? ⟨gb, 9, none⟩ = some (.int .i64 a0_9) := (qaa BKgb.out 9).trans rfl; have q10 : w7.cell? ⟨gb, 10, none⟩ = some (.int .i64 a0_10) := (qaa BKgb.out 10).trans rfl; have q11 : w7.cell? ⟨gb, 11, none⟩ = some (.int .i64 a0_11) := (qaa BKgb.out 11).trans rfl) | (go_at_call 55; with_reducible refine (H_b8.out _).mono ?_; rintro e w8 ⟨rfl, hb⟩; replace BKgb := qab.mk (qae BKgb.out hb); replace HB := qab.mk (qad HB.out hb); clear hb; have q9 : w8.cell? ⟨gb, 9, none⟩ = some (.int .i64 a0_9) := (qaa BKgb.out 9).trans rfl; have q10 : w8.cell? ⟨gb, 10, none⟩ = some (.int .i64 a0_10) := (qaa BKgb.out 10).trans rfl; have q11 : w8.cell? ⟨gb, 11, none⟩ = some (.int .i64 a0_11) := (qaa BKgb.out 11).trans rfl) | (go_at_call 55; with_reducible refine (H_b9.out _).mono ?_; rintro e w9 ⟨rfl, hb⟩; replace BKgb := qab.mk (qae BKgb.out hb); replace HB := qab.mk (qad HB.out hb); clear hb; have q10 : w9.cell? ⟨gb, 10, none⟩ = some (.int .i64 a0_10) := (qaa BKgb.out 10).trans rfl; have q11 : w9.cell? ⟨gb, 11, none⟩ = some (.int .i64 a0_11) := (qaa BKgb.out 11).trans rfl) | (go_at_call 88; with_reducible refine (H_b10.out _).mono ?_; rintro e w10 ⟨rfl, hb⟩; replace BKgb := qab.mk (qae BKgb.out hb); replace HB := qab.mk (qad HB.out hb); clear hb))
  go_ret
  exact ⟨rfl, HB.out⟩
end Go.Proofs.Ytipphcjgdebecaa.PA
