/- What functions of the program answer. No condition. -/
import Derived.RangeFuncNested
import Derived.RangeFuncBound
import Derived.RangeFuncCalls
import Derived.RangeFuncLeaves
import Derived.RangeFuncBox
import Derived.Shelf.Abstract
import Derived.Shelf.RegionOpen
import Derived.OwnWalkIn
import Derived.TacticsInMore
import Derived.LoopNIn
import Derived.LoopIn
import Derived.Recover
import Derived.Defers
import Derived.WalkLawsBesides
import Derived.WalkSmall
import Derived.Test.YtipphcjgdebecaaPmA
import Derived.Test.YtipphcjgdebecaaSC
import Derived.Test.YtipphcjgdebecaaSE
import Derived.Test.YtipphcjgdebecaaSH
import Derived.Test.YtipphcjgdebecaaSF
import Derived.Test.YtipphcjgdebecaaSJ
import Derived.Test.YtipphcjgdebecaaSL
import Derived.Test.YtipphcjgdebecaaSD
import Derived.Test.YtipphcjgdebecaaSK
import Derived.Test.YtipphcjgdebecaaSG
import Derived.Test.YtipphcjgdebecaaSM
set_option linter.all false
set_option maxRecDepth 100000
set_option maxHeartbeats 8000000
namespace Go.Proofs.Ytipphcjgdebecaa.PA
open Go.RowKit Go.Shelf Go.Proofs.YtipphcjgdebecaaW.PrintWords Go.Proofs.YtipphcjgdebecaaW.PrintLast Go.Proofs.YtipphcjgdebecaaW.PrintMore
attribute [local go_sem] qas qau max_two min_two qao qap qat qav
theorem fault_same (l0 : List S39) (h5 : l0.length ≤ 5) (f : Int) : faultB l0 f = inFault l0 f := by
 have hp : 2 ^ l0.length ≤ 2 ^ 5 := Nat.pow_le_pow_right (n := 2) (by decide) h5
 have h0 : 0 < 2 ^ l0.length := Nat.pow_pos (by decide)
 unfold faultB inFault
 rw [shl_powN _ h5]
 generalize 2 ^ l0.length = p at hp h0 ⊢
 rw [wrap_id (by omega) (by omega)]
theorem loops_in {f : Int} {n : Nat} (h5 : n ≤ 5) (f0 : 0 ≤ f) (f1 : f < ((2 ^ n : Nat) : Int)) : ∀ i ∈ qaq f 5, 0 ≤ i ∧ i < n := by
 obtain ⟨x, rfl⟩ := Int.eq_ofNat_of_zero_le f0
 intro i hi
 obtain ⟨k, rfl, _, _⟩ := (mem_loopsOf _ 5 i).1 hi
 exact ⟨by omega, loops_low h5 (by omega) _ hi⟩
theorem bok_ways {l0 : List S39} {l1 : List S37} {l2 : List (List Int)} (h : NetOk l0 l1 l2) (p i : Int) (p0 : 0 ≤ p) (p1 : p ≤ l0.length) (i0 : 0 ≤ i) (i1 : i < l0.length) : 0 ≤ rd (rd_L1 l2 p) (i + 1) ∧ rd (rd_L1 l2 p) (i + 1) ≤ 72 ∧ (rd_L1 l2 p).length = l0.length + 1 := by
 obtain ⟨n, rfl⟩ := Int.eq_ofNat_of_zero_le p0
 have hm := h.m
 have hn : n < l2.length := by omega
 obtain ⟨h1, _, h3⟩ := h.ways n hn
 rw [rd_L1_at l2 n hn]
 have hj : (i + 1).toNat < l2[n].length := by omega
 have e : rd l2[n] (i + 1) = l2[n][(i + 1).toNat] := by simp [rd, hj]
 rw [e]
 have := h3 _ (List.getElem_mem hj)
 exact ⟨this.1, this.2, h1⟩
theorem frz_bd : ∀ (l : List S37) (h can : Int), (frz l h can).1 = can ∨ (h + 1 ≤ (frz l h can).1 ∧ (frz l h can).1 ≤ h + l.length)
 | [], h, can => .inl rfl
 | s :: t, h, can => by
  simp only [frz, List.length_cons]
  split
  ·
   dsimp only
   split
   ·
    right
    omega
   ·
    exact .inl rfl
  ·
   rcases frz_bd t (h + 1) (if s.f0 = 0 ∧ can < 0 then h + 1 else can) with he | ⟨h1, h2⟩
   ·
    rw [he]
    split
    ·
     right
     omega
    ·
     exact .inl rfl
   ·
    right
    omega
def canV (l0 : List S39) (l1 : List S37) (i : Int) : Int := (frz (warmthV l0 l1 0 i) 0 (-1)).1
theorem can_bd (l0 : List S39) (l1 : List S37) (i : Int) : canV l0 l1 i = -1 ∨ (1 ≤ canV l0 l1 i ∧ canV l0 l1 i ≤ l1.length) := by
 have h := frz_bd (warmthV l0 l1 0 i) 0 (-1)
 have e : (warmthV l0 l1 0 i).length = l1.length := by simp [warmthV]
 rw [e] at h
 unfold canV
 omega
def dueI (l0 : List S39) (l1 : List S37) (i : Int) : Int := if canV l0 l1 i < 0 then l1.length else canV l0 l1 i - 1
theorem due_eq (l0 : List S39) (l1 : List S37) (l2 : List (List Int)) (i : Int) (h0 : 0 ≤ i) (h1 : i < l0.length) (hn : l1.length ≤ 1000) : (pipe_net_due.f l0 l1 l2 0 i).getD 0 = dueI l0 l1 i := by
 unfold pipe_net_due.f pipe_net_freezes.f
 rw [if_pos ⟨h0, h1, by decide, hn⟩]
 have hb := can_bd l0 l1 i
 simp only [Option.bind_some]
 show Option.getD (if canV l0 l1 i ≥ 0 then some (wrap64 (canV l0 l1 i - 1)) else some (l1.length : Int)) 0 = _
 unfold dueI
 by_cases hc : canV l0 l1 i < 0
 ·
  rw [if_neg (by omega), if_pos hc]
  rfl
 ·
  rw [if_pos (by omega), if_neg hc, wrap_id (by omega) (by omega)]
  rfl
def duesI (l0 : List S39) (l1 : List S37) : List Int := (List.range l0.length).map fun i : Nat => dueI l0 l1 (i : Int)
theorem dues_same (l0 : List S39) (l1 : List S37) (l2 : List (List Int)) (hn : l1.length ≤ 1000) : duesV l0 l1 l2 0 l0.length = duesI l0 l1 := by
 unfold duesV duesI
 refine List.map_congr_left fun i hi => ?_
 exact due_eq l0 l1 l2 i (by omega) (by have := List.mem_range.1 hi; omega) hn
theorem rd_duesI (l0 : List S39) (l1 : List S37) (i : Int) (h0 : 0 ≤ i) (h1 : i < l0.length) : rd (duesI l0 l1) i = dueI l0 l1 i := by
 obtain ⟨n, rfl⟩ := Int.eq_ofNat_of_zero_le h0
 have hn : n < l0.length := by omega
 simp [rd, duesI, hn]
theorem bok {l0 : List S39} {l1 : List S37} {l2 : List (List Int)} (h : NetOk l0 l1 l2) : BOk l0 l1 l2 (duesI l0 l1) := by
 refine ⟨fun p i p0 p1 i0 i1 => ?_, fun i i0 i1 => ?_, fun i i0 i1 => ?_, ⟨h.h0, h.h1⟩⟩
 ·
  have := bok_ways h p i p0 p1 i0 i1
  exact ⟨this.1, this.2.1⟩
 ·
  have hL := h.loops _ (rdT39_mem i0 i1)
  have a := hL.x0
  have b := hL.x1
  have c := hL.x2
  omega
 ·
  rw [rd_duesI l0 l1 i i0 i1]
  have hb := can_bd l0 l1 i
  have h0 := h.h0
  unfold dueI
  split <;> omega
def orderV (l0 : List S39) (l1 : List S37) (l2 : List (List Int)) (a f : Int) : Way := bestV l0 l1 l2 (duesI l0 l1) ⟨a, 0, f⟩
theorem net_order_eq {l0 : List S39} {l1 : List S37} {l2 : List (List Int)} (hv : validB l0 l1 l2 = true) (a f : Int) (a0 : 0 ≤ a) (a1 : a ≤ l0.length) (f0 : 0 ≤ f) (f1 : f < ((2 ^ l0.length : Nat) : Int)) : pipe_net_order.f l0 l1 l2 0 a f = some (orderV l0 l1 l2 a f) := by
 have hN := net_ok hv
 have hh := hN.h1
 unfold pipe_net_order.f
 have e : ((2 ^ l0.length : Nat) : Int) = (2 : Int) ^ l0.length := by simp
 rw [if_pos ⟨hv, by decide, a0, a1, f0, by rw [← e]; exact f1⟩, dues_same l0 l1 l2 (by omega)]
 rfl
theorem order_eq {l0 : List S39} {l1 : List S37} {l2 : List (List Int)} (hv : validB l0 l1 l2 = true) (a f : Int) (a0 : 0 ≤ a) (a1 : a ≤ l0.length) (hf : inFault l0 f = true) (k : Nat) (hk : 1 ≤ k) :
  pipe_Order.f k l0 l1 l2 a f = some (if (orderV l0 l1 l2 a f).2.2 = true then ((orderV l0 l1 l2 a f).1, (orderV l0 l1 l2 a f).2.1, 0) else ([], 0, 5)) := by
 have hN := net_ok hv
 have hf' := hf
 unfold inFault inB at hf'
 simp only [Bool.and_eq_true, decide_eq_true_eq] at hf'
 have hp : inB a 0 l0.length = true := by
  unfold inB
  simp
  omega
 unfold pipe_Order.f
 rw [hv, hp, fault_same l0 hN.n1, hf, if_pos (by decide), net_order_eq hv a f a0 a1 hf'.1 (by omega)]
 rfl
theorem sok {l0 : List S39} {l1 : List S37} {l2 : List (List Int)} (hN : NetOk l0 l1 l2) {a f : Int} (a0 : 0 ≤ a) (a1 : a ≤ l0.length) (hf : inFault l0 f = true) : SOk l0 ⟨a, 0, f⟩ := by
 have hf' := hf
 unfold inFault inB at hf'
 simp only [Bool.and_eq_true, decide_eq_true_eq] at hf'
 have hn1 := hN.n1
 have hp : 2 ^ l0.length ≤ 2 ^ 5 := Nat.pow_le_pow_right (n := 2) (by decide) hn1
 have h3 : f < ((2 ^ l0.length : Nat) : Int) := by omega
 exact ⟨⟨hf'.1, by show f < 32; omega⟩, a0, a1, Int.le_refl _, by show (0 : Int) ≤ 72; omega, loops_in hn1 hf'.1 h3⟩
end Go.Proofs.Ytipphcjgdebecaa.PA
namespace Go.Proofs.Ytipphcjgdebecaa.PA
open Go.RowKit Go.Proofs.YtipphcjgdebecaaW.PrintWords Go.Proofs.YtipphcjgdebecaaW.PrintLast Go.Proofs.YtipphcjgdebecaaW.PrintMore
attribute [local go_sem] qas qau max_two min_two qao qap qat qav
structure BIN (w : World) (gb : Nat) (nb : Array Value) (W : World) : Prop where
 b : W.heap[gb]? = some (.cells nb 26 (0, 0))
 hb : Below w.heap.size w W
theorem BIN.below {w W W' : World} {gb : Nat} {nb : Array Value} (h : BIN w gb nb W) (hb : Below W.heap.size W W') : BIN w gb nb W' := ⟨qae h.b hb, qad h.hb hb⟩
theorem all_step {α : Type} (f : α → Bool) (l : List α) (d : α) (j : Nat) (hj : j < l.length) : (l.drop j).all f = (f (l.getD j d) && (l.drop (j + 1)).all f) := by
 rw [List.drop_eq_getElem_cons hj, List.all_cons]
 simp [hj]
theorem chkR_step (i : Nat) (row : List Int) (j : Nat) (hj : j < row.length) : chkR i (row.drop j) j = (inB (rd row j) 0 72 && ((i != j || rd row j == 0) && chkR i (row.drop (j + 1)) (j + 1))) := by
 rw [List.drop_eq_getElem_cons hj]
 have : rd row (j : Int) = row[j] := by simp [rd, hj]
 rw [this]
 rfl
theorem rowsR_step (n : Nat) (l : List (List Int)) (i : Nat) (hi : i < l.length) : rowsR n (l.drop i) i = (decide ((rd_L1 l i).length = n) && (chkR i (rd_L1 l i) 0 && rowsR n (l.drop (i + 1)) (i + 1))) := by
 rw [List.drop_eq_getElem_cons hi, rd_L1_at l i hi]
 rfl
theorem in60 (a lo hi : Int) (W : World) : Calls Try.prog 60 #[.int .i64 a, .int .i64 lo, .int .i64 hi] W fun e w' => e = .returned (.bool (inB a lo hi)) ∧ Below W.heap.size W w' :=
 talikref04_in_to (talikref04_in.calls _ _ _ _ W (rin_eq a lo hi))
def talikref04_Net.f (l0_0 : List (S39)) (l0_1 : List (S37)) (l0_2 : List (List Int)) : Option (Bool) := if shortB l0_0 l0_1 l0_2 = true then some (l0_0.all loopB && (l0_1.all (fun s => spanB s 0 1000) && (rowsR (l0_0.length + 1) l0_2 0 && finR l0_0 l0_1 l0_2))) else none
theorem talikref04_Net.calls (A0_0 : Option Addr) (c0_0 : Nat) (l0_0 : List (S39)) (A0_1 : Option Addr) (c0_1 : Nat) (l0_1 : List (S37)) (A0_2 : Option Addr) (c0_2 : Nat) (l0_2 : List (List Int)) (r : Bool) (w : World) (hr0_0 : Kd.C k39 w A0_0 l0_0.length l0_0) (hc0_0 : l0_0.length ≤ c0_0) (hr0_1 : Kd.C k37 w A0_1 l0_1.length l0_1) (hc0_1 : l0_1.length ≤ c0_1) (hr0_2 : Kd.C (Kd.slice 3 (Kd.int .i64)) w A0_2 l0_2.length l0_2) (hc0_2 : l0_2.length ≤ c0_2) (h : talikref04_Net.f l0_0 l0_1 l0_2 = some r) :
  Calls Try.prog 19 #[.agg #[.slice A0_0 l0_0.length c0_0, .slice A0_1 l0_1.length c0_1, .slice A0_2 l0_2.length c0_2]] w fun e w' => e = .returned (.bool r) ∧ Below w.heap.size w w' := by
 unfold talikref04_Net.f at h
 split at h
 case isFalse => cases h
 rename_i hsb
 have hs := short_of hsb
 have H0 := hs.h0
 have H1 := hs.h1
 have H2 := hs.h2
 have HRW := qab.mk hs.hr
 have h' := Option.some.inj h
 clear h hs hsb
 have hu26 := Try.underlying26
 have hu39 := Try.underlying39
 have hu37 := Try.underlying37
 have HB := qab.mk (Below.refl w.heap.size w)
 have HR0 := qab.mk hr0_0
 have HR1 := qab.mk hr0_1
 have HR2 := qab.mk hr0_2
 clear hr0_0 hr0_1 hr0_2
 obtain ⟨R3, hR3⟩ : ∃ x, x = finR l0_0 l0_1 l0_2 := ⟨_, rfl⟩
 obtain ⟨R2, hR2⟩ : ∃ x, x = (rowsR (l0_0.length + 1) l0_2 0 && R3) := ⟨_, rfl⟩
 obtain ⟨R1, hR1⟩ : ∃ x, x = (l0_1.all (fun s => spanB s 0 1000) && R2) := ⟨_, rfl⟩
 have HF0 : qab (((l0_0.drop 0).all loopB && R1) = r) := ⟨by rw [List.drop_zero, hR1, hR2, hR3]; exact h'⟩
 have HE1 := qab.mk hR1
 have HE2 := qab.mk hR2
 have HE3 := qab.mk hR3
 clear h' hR1 hR2 hR3
 go_enter Try.func19, Try.ntmps19
 go_wp2_with (first | (with_reducible refine qam (N := 1) rfl ?_); refine qal ?hg (N := 1) ?hd (cs := #[.slice A0_0 l0_0.length c0_0, .slice A0_1 l0_1.length c0_1, .slice A0_2 l0_2.length c0_2]) (t := 26) ?hr ?_; (case hd => rfl); (case hg => rfl); (case hr => first | (go_simp; done) | (go_simp; rfl)); intro gb hg_gb w2 hbox hb; have BKgb := qab.mk hbox; have n_HB := qab.mk (qad HB.out hb); have GEgb : w.heap.size ≤ gb := (by rw [hg_gb]; exact HB.out.size); clear HB; have HB := n_HB; clear n_HB; obtain ⟨hfgb, hcgb_0, hcgb_1, hcgb_2⟩ := qz3 BKgb.out; clear hbox hb hg_gb)
 clear hfgb hcgb_0 hcgb_1 hcgb_2
 have HI : qab (BIN w gb #[.slice A0_0 l0_0.length c0_0, .slice A0_1 l0_1.length c0_1, .slice A0_2 l0_2.length c0_2] w2) := ⟨⟨BKgb.out, HB.out⟩⟩
 clear BKgb HB GEgb
 go_loopw [3] (fun s3 wr => ∃ j : Nat, j ≤ l0_0.length ∧ s3 = .int .i64 j ∧ qab (((l0_0.drop j).all loopB && R1) = r) ∧ qab (BIN w gb #[.slice A0_0 l0_0.length c0_0, .slice A0_1 l0_1.length c0_1, .slice A0_2 l0_2.length c0_2] wr)) (fun s _ => l0_0.length - (intOf s).toNat)
 case atStart => exact ⟨0, by omega, rfl, HF0, HI⟩
 case round =>
  clear HI HF0
  obtain ⟨j, hj, rfl, HF, HI⟩ := hrel
  by_cases hlt : j < l0_0.length
  ·
   have hlt1 : (j : Int) < l0_0.length := by omega
   have hj0 : (0 : Int) ≤ j := by omega
   have hw1 : IntKind.i64.wrap ((j : Int) + 1) = (j : Int) + 1 := by rw [i64_w]; unfold wrap64; omega
   obtain ⟨ad, e, hl0, hl1, hl2, hl3, hl4, hl5, hl6, hl7, hl8, hl9, hl10, hl11⟩ := at_T39 (Kd.qak HR0.out HI.out.hb) j hj0 hlt1
   cases e
   simp only [Int.toNat_natCast] at hl0 hl1 hl2 hl3 hl4 hl5 hl6 hl7 hl8 hl9 hl10 hl11
   have hf := HF.out
   rw [all_step loopB l0_0 z39 j hlt, show l0_0.getD j z39 = qaj l0_0 (j : Int) from by simp [qaj]] at hf
   generalize qaj l0_0 (j : Int) = L at *
   have HC := qab.mk (talikref04_Loop.calls _ _ _ _ _ _ _ _ _ _ _ _ _ wr (rloop_eq L))
   obtain ⟨b, hb⟩ : ∃ b, b = loopB L := ⟨_, rfl⟩
   rw [← hb] at HC hf
   clear hb HF
   have hq0 : wr.cell? ⟨gb, 0, none⟩ = some (.slice (some ad) l0_0.length c0_0) := (qaa HI.out.b 0).trans rfl; have hq1 : wr.cell? ⟨gb, 1, none⟩ = some (.slice A0_1 l0_1.length c0_1) := (qaa HI.out.b 1).trans rfl; have hq2 : wr.cell? ⟨gb, 2, none⟩ = some (.slice A0_2 l0_2.length c0_2) := (qaa HI.out.b 2).trans rfl
   cases b with
   | false =>
    rw [Bool.false_and, Bool.false_and] at hf
    subst hf
    go_wp2_with (first | (go_at_call 58; with_reducible refine (HC.out).mono ?_; rintro e w3 ⟨rfl, hb⟩; replace HI := qab.mk (HI.out.below hb); clear hb hq0 hq1 hq2; have hq0 : w3.cell? ⟨gb, 0, none⟩ = some (.slice (some ad) l0_0.length c0_0) := (qaa HI.out.b 0).trans rfl; have hq1 : w3.cell? ⟨gb, 1, none⟩ = some (.slice A0_1 l0_1.length c0_1) := (qaa HI.out.b 1).trans rfl; have hq2 : w3.cell? ⟨gb, 2, none⟩ = some (.slice A0_2 l0_2.length c0_2) := (qaa HI.out.b 2).trans rfl))
    go_ret
    exact ⟨rfl, HI.out.hb⟩
   | true =>
    rw [Bool.true_and] at hf
    have HF := qab.mk hf
    clear hf
    go_wp2_with (first | (go_at_call 58; with_reducible refine (HC.out).mono ?_; rintro e w3 ⟨rfl, hb⟩; replace HI := qab.mk (HI.out.below hb); clear hb hq0 hq1 hq2; have hq0 : w3.cell? ⟨gb, 0, none⟩ = some (.slice (some ad) l0_0.length c0_0) := (qaa HI.out.b 0).trans rfl; have hq1 : w3.cell? ⟨gb, 1, none⟩ = some (.slice A0_1 l0_1.length c0_1) := (qaa HI.out.b 1).trans rfl; have hq2 : w3.cell? ⟨gb, 2, none⟩ = some (.slice A0_2 l0_2.length c0_2) := (qaa HI.out.b 2).trans rfl))
    go_roundw
    case rel => exact ⟨j + 1, by omega, by go_num, HF, HI⟩
    case measure => simp [intOf]; omega
  ·
   have he := HF.out
   rw [List.drop_eq_nil_of_le (by omega), List.all_nil, Bool.true_and] at he
   have HF0 : qab (((l0_1.drop 0).all (fun s => spanB s 0 1000) && R2) = r) := ⟨by rw [List.drop_zero, ← HE1.out]; exact he⟩
   clear HF he
   obtain ⟨wA, rfl⟩ : ∃ wa : World, wa = wr := ⟨_, rfl⟩
   have hq0 : wA.cell? ⟨gb, 0, none⟩ = some (.slice A0_0 l0_0.length c0_0) := (qaa HI.out.b 0).trans rfl; have hq1 : wA.cell? ⟨gb, 1, none⟩ = some (.slice A0_1 l0_1.length c0_1) := (qaa HI.out.b 1).trans rfl; have hq2 : wA.cell? ⟨gb, 2, none⟩ = some (.slice A0_2 l0_2.length c0_2) := (qaa HI.out.b 2).trans rfl
   go_wp2_with fail
   clear hq0 hq1 hq2
   go_loopw [4] (fun s4 wr => ∃ j : Nat, j ≤ l0_1.length ∧ s4 = .int .i64 j ∧ qab (((l0_1.drop j).all (fun s => spanB s 0 1000) && R2) = r) ∧ qab (BIN w gb #[.slice A0_0 l0_0.length c0_0, .slice A0_1 l0_1.length c0_1, .slice A0_2 l0_2.length c0_2] wr)) (fun s _ => l0_1.length - (intOf s).toNat)
   case atStart => exact ⟨0, by omega, rfl, HF0, HI⟩
   case round =>
    clear HI HF0
    obtain ⟨j, hj, rfl, HF, HI⟩ := hrel
    by_cases hlt : j < l0_1.length
    ·
     have hlt1 : (j : Int) < l0_1.length := by omega
     have hj0 : (0 : Int) ≤ j := by omega
     have hw1 : IntKind.i64.wrap ((j : Int) + 1) = (j : Int) + 1 := by rw [i64_w]; unfold wrap64; omega
     obtain ⟨ad, e, hl0, hl1⟩ := at_T37 (Kd.qak HR1.out HI.out.hb) j hj0 hlt1
     cases e
     simp only [Int.toNat_natCast] at hl0 hl1
     have hf := HF.out
     rw [all_step (fun s => spanB s 0 1000) l0_1 z37 j hlt, show l0_1.getD j z37 = rd_T37 l0_1 (j : Int) from by simp [rd_T37]] at hf
     generalize rd_T37 l0_1 (j : Int) = F at *
     have HC := qab.mk (talikref04_Span_to (talikref04_Span.calls _ _ _ _ _ wr (rspan_eq F 0 1000)))
     obtain ⟨b, hb⟩ : ∃ b, b = spanB F 0 1000 := ⟨_, rfl⟩
     rw [← hb] at HC hf
     clear hb HF
     have hq0 : wr.cell? ⟨gb, 0, none⟩ = some (.slice A0_0 l0_0.length c0_0) := (qaa HI.out.b 0).trans rfl; have hq1 : wr.cell? ⟨gb, 1, none⟩ = some (.slice (some ad) l0_1.length c0_1) := (qaa HI.out.b 1).trans rfl; have hq2 : wr.cell? ⟨gb, 2, none⟩ = some (.slice A0_2 l0_2.length c0_2) := (qaa HI.out.b 2).trans rfl
     cases b with
     | false =>
      rw [Bool.false_and, Bool.false_and] at hf
      subst hf
      go_wp2_with (first | (go_at_call 59; with_reducible refine (HC.out).mono ?_; rintro e w3 ⟨rfl, hb⟩; replace HI := qab.mk (HI.out.below hb); clear hb hq0 hq1 hq2; have hq0 : w3.cell? ⟨gb, 0, none⟩ = some (.slice A0_0 l0_0.length c0_0) := (qaa HI.out.b 0).trans rfl; have hq1 : w3.cell? ⟨gb, 1, none⟩ = some (.slice (some ad) l0_1.length c0_1) := (qaa HI.out.b 1).trans rfl; have hq2 : w3.cell? ⟨gb, 2, none⟩ = some (.slice A0_2 l0_2.length c0_2) := (qaa HI.out.b 2).trans rfl))
      go_ret
      exact ⟨rfl, HI.out.hb⟩
     | true =>
      rw [Bool.true_and] at hf
      have HF := qab.mk hf
      clear hf
      go_wp2_with (first | (go_at_call 59; with_reducible refine (HC.out).mono ?_; rintro e w3 ⟨rfl, hb⟩; replace HI := qab.mk (HI.out.below hb); clear hb hq0 hq1 hq2; have hq0 : w3.cell? ⟨gb, 0, none⟩ = some (.slice A0_0 l0_0.length c0_0) := (qaa HI.out.b 0).trans rfl; have hq1 : w3.cell? ⟨gb, 1, none⟩ = some (.slice (some ad) l0_1.length c0_1) := (qaa HI.out.b 1).trans rfl; have hq2 : w3.cell? ⟨gb, 2, none⟩ = some (.slice A0_2 l0_2.length c0_2) := (qaa HI.out.b 2).trans rfl))
      go_roundw
      case rel => exact ⟨j + 1, by omega, by go_num, HF, HI⟩
      case measure => simp [intOf]; omega
    ·
     have he := HF.out
     rw [List.drop_eq_nil_of_le (by omega), List.all_nil, Bool.true_and] at he
     have HF0 : qab ((rowsR (l0_0.length + 1) (l0_2.drop 0) 0 && R3) = r) := ⟨by rw [List.drop_zero, ← HE2.out]; exact he⟩
     clear HF he
     obtain ⟨wB, rfl⟩ : ∃ wa : World, wa = wr := ⟨_, rfl⟩
     have hq0 : wB.cell? ⟨gb, 0, none⟩ = some (.slice A0_0 l0_0.length c0_0) := (qaa HI.out.b 0).trans rfl; have hq1 : wB.cell? ⟨gb, 1, none⟩ = some (.slice A0_1 l0_1.length c0_1) := (qaa HI.out.b 1).trans rfl; have hq2 : wB.cell? ⟨gb, 2, none⟩ = some (.slice A0_2 l0_2.length c0_2) := (qaa HI.out.b 2).trans rfl
     go_wp2_with fail
     clear hq0 hq1 hq2
     have hw2 : IntKind.i64.wrap ((l0_0.length : Int) + 1) = (l0_0.length : Int) + 1 := by rw [i64_w]; unfold wrap64; omega
     go_loopw [5] (fun s5 wr => ∃ i : Nat, i ≤ l0_2.length ∧ s5 = .int .i64 i ∧ qab ((rowsR (l0_0.length + 1) (l0_2.drop i) i && R3) = r) ∧ qab (BIN w gb #[.slice A0_0 l0_0.length c0_0, .slice A0_1 l0_1.length c0_1, .slice A0_2 l0_2.length c0_2] wr)) (fun s _ => l0_2.length - (intOf s).toNat)
     case atStart => exact ⟨0, by omega, rfl, HF0, HI⟩
     case round =>
      clear HI HF0
      obtain ⟨i, hi, rfl, HF, HI⟩ := hrel
      by_cases hlt : i < l0_2.length
      ·
       have hlt1 : (i : Int) < l0_2.length := by omega
       have hi0 : (0 : Int) ≤ i := by omega
       have hrl : (rd_L1 l0_2 (i : Int)).length ≤ 10 := by rw [rd_L1_at l0_2 i hlt]; exact HRW.out i hlt
       have hf := HF.out
       rw [rowsR_step _ l0_2 i hlt] at hf
       obtain ⟨wO, rfl⟩ : ∃ wo : World, wo = wr := ⟨_, rfl⟩
       obtain ⟨ad, rA, rc, e, hcell, hrc, hrC⟩ := at_L1 (Kd.qak HR2.out HI.out.hb) i hi0 hlt1
       cases e
       simp only [Int.toNat_natCast] at hcell
       have HT : qab (∀ W, BIN w gb #[.slice A0_0 l0_0.length c0_0, .slice A0_1 l0_1.length c0_1, .slice (some ad) l0_2.length c0_2] W → W.cell? (ad.add i) = some (.slice rA (rd_L1 l0_2 i).length rc) → (W.cell? ⟨gb, 0, none⟩ = some (.slice A0_0 l0_0.length c0_0) ∧ W.cell? ⟨gb, 2, none⟩ = some (.slice (some ad) l0_2.length c0_2) ∧ W.cell? (ad.add i) = some (.slice rA (rd_L1 l0_2 i).length rc))) := ⟨fun W h hc => ⟨qaa h.b 0, qaa h.b 2, hc⟩⟩
       have HCELL := qab.mk hcell
       have HRC := qab.mk hrC
       by_cases hlen : (rd_L1 l0_2 (i : Int)).length = l0_0.length + 1
       ·
        have d1 : (((rd_L1 l0_2 (i : Int)).length : Int) != (l0_0.length : Int) + 1) = false := by rw [bne_eq_false_iff_eq]; omega
        rw [decide_eq_true hlen, Bool.true_and, Bool.and_assoc] at hf
        have HF0 : qab ((chkR i ((rd_L1 l0_2 (i : Int)).drop 0) 0 && (rowsR (l0_0.length + 1) (l0_2.drop (i + 1)) (i + 1) && R3)) = r) := ⟨by rw [List.drop_zero]; exact hf⟩
        clear hf HF
        have hq0 : wO.cell? ⟨gb, 0, none⟩ = some (.slice A0_0 l0_0.length c0_0) := (qaa HI.out.b 0).trans rfl; have hq1 : wO.cell? ⟨gb, 1, none⟩ = some (.slice A0_1 l0_1.length c0_1) := (qaa HI.out.b 1).trans rfl; have hq2 : wO.cell? ⟨gb, 2, none⟩ = some (.slice (some ad) l0_2.length c0_2) := (qaa HI.out.b 2).trans rfl
        go_upto_region 14 with fail
        clear hq0 hq1 hq2
        refine start_ (n := 11) (S := (fun w' => (w'.cell? ⟨gb, 0, none⟩ = some (.slice A0_0 l0_0.length c0_0) ∧ w'.cell? ⟨gb, 2, none⟩ = some (.slice (some ad) l0_2.length c0_2) ∧ w'.cell? (ad.add i) = some (.slice rA (rd_L1 l0_2 i).length rc)))) (ds := []) (msk 11 0) (by kernel_rfl) rfl rfl (HT.out wO.drew (HI.out.below (below_drew (Below.refl _ _))) (hcell.trans rfl)) (fun hHeld => ?_)
        refine pure_ (i := 0) (N := some 42) (v := ?_) (a' := ?_) (msk 11 1) rfl rfl (by kernel_rfl) (fun _ _ _ h => h) (Or.inl ⟨by rfl, ?_⟩) ?_ ?_; rotate_left; (focus (intro w'; go_simp; with_reducible rfl)); rotate_left; (focus (simp only [Act.put, qzA, qzB, qzC, i64_w, i32_w]; rfl))
        refine take_ (i := 1) (N := some 43) (v := ?_) (a' := ?_) (msk 11 2) rfl rfl (by kernel_rfl) (fun _ _ _ h => h) (Or.inl ⟨by rfl, ?_⟩) hHeld ?_ ?_; rotate_left; (focus (rintro w' ⟨s0, s1, s2⟩; go_simp; with_reducible rfl)); rotate_left; (focus (simp only [Act.put, qzA, qzB, qzC, i64_w, i32_w]; rfl))
        refine pure_ (i := 2) (N := some 44) (v := ?_) (a' := ?_) (msk 11 3) rfl rfl (by kernel_rfl) (fun _ _ _ h => h) (Or.inl ⟨by rfl, ?_⟩) ?_ ?_; rotate_left; (focus (intro w'; go_simp; with_reducible rfl)); rotate_left; (focus (simp only [Act.put, qzA, qzB, qzC, i64_w, i32_w]; rfl))
        refine pure_ (i := 3) (N := some 45) (v := ?_) (a' := ?_) (msk 11 4) rfl rfl (by kernel_rfl) (fun _ _ _ h => h) (Or.inl ⟨by rfl, ?_⟩) ?_ ?_; rotate_left; (focus (intro w'; go_simp; with_reducible rfl)); rotate_left; (focus (simp only [Act.put, qzA, qzB, qzC, i64_w, i32_w]; rfl))
        refine take_ (i := 4) (N := some 46) (v := ?_) (a' := ?_) (msk 11 5) rfl rfl (by kernel_rfl) (fun _ _ _ h => h) (Or.inl ⟨by rfl, ?_⟩) hHeld ?_ ?_; rotate_left; (focus (rintro w' ⟨s0, s1, s2⟩; go_simp; with_reducible rfl)); rotate_left; (focus (simp only [Act.put, qzA, qzB, qzC, i64_w, i32_w]; rfl))
        refine pure_ (i := 5) (N := some 47) (v := ?_) (a' := ?_) (msk 11 6) rfl rfl (by kernel_rfl) (fun _ _ _ h => h) (Or.inl ⟨by rfl, ?_⟩) ?_ ?_; rotate_left; (focus (intro w'; go_simp; with_reducible rfl)); rotate_left; (focus (simp only [Act.put, qzA, qzB, qzC, i64_w, i32_w]; rfl))
        refine pure_ (i := 6) (N := some 48) (v := ?_) (a' := ?_) (msk 11 7) rfl rfl (by kernel_rfl) (fun _ _ _ h => h) (Or.inl ⟨by rfl, ?_⟩) ?_ ?_; rotate_left; (focus (intro w'; go_simp; with_reducible rfl)); rotate_left; (focus (simp only [Act.put, qzA, qzB, qzC, i64_w, i32_w]; rfl))
        refine take_ (i := 7) (N := some 49) (v := ?_) (a' := ?_) (msk 11 8) rfl rfl (by kernel_rfl) (fun _ _ _ h => h) (Or.inl ⟨by rfl, ?_⟩) hHeld ?_ ?_; rotate_left; (focus (rintro w' ⟨s0, s1, s2⟩; go_simp; with_reducible rfl)); rotate_left; (focus (simp only [Act.put, qzA, qzB, qzC, i64_w, i32_w]; rfl))
        refine pure_ (i := 8) (N := some 50) (v := ?_) (a' := ?_) (msk 11 9) rfl rfl (by kernel_rfl) (fun _ _ _ h => h) (Or.inl ⟨by rfl, ?_⟩) ?_ ?_; rotate_left; (focus (intro w'; go_simp; with_reducible rfl)); rotate_left; (focus (simp only [Act.put, qzA, qzB, qzC, i64_w, i32_w]; rfl))
        refine pure_ (i := 9) (N := some 51) (v := ?_) (a' := ?_) (msk 11 10) rfl rfl (by kernel_rfl) (fun _ _ _ h => h) (Or.inl ⟨by rfl, ?_⟩) ?_ ?_; rotate_left; (focus (intro w'; go_simp; with_reducible rfl)); rotate_left; (focus (simp only [Act.put, qzA, qzB, qzC, i64_w, i32_w]; rfl))
        refine pure_ (i := 10) (N := some 52) (v := ?_) (a' := ?_) (msk 11 11) rfl rfl (by kernel_rfl) (fun _ _ _ h => h) (Or.inl ⟨by rfl, ?_⟩) ?_ ?_; rotate_left; (focus (intro w'; go_simp; with_reducible rfl)); rotate_left; (focus (simp only [Act.put, qzA, qzB, qzC, i64_w, i32_w]; rfl))
        refine done_ (by kernel_rfl) ?_
        have n_HI := qab.mk (HI.out.below (below_drew (Below.refl wO.heap.size wO)))
        clear HI
        have HI := n_HI
        clear n_HI HT
        have n_HC := qab.mk ((below_drew (Below.refl wO.heap.size wO)).cell (World.block_lt_of_cell? _ _ HCELL.out) |>.trans HCELL.out)
        have n_HR := qab.mk (Kd.qak HRC.out (below_drew (Below.refl wO.heap.size wO)))
        clear HCELL HRC hcell hrC
        have HCELL := n_HC
        have HRC := n_HR
        clear n_HC n_HR
        generalize wO.drew = wP at HI HCELL HRC ⊢
        go_wp2_with fail
        go_loopw [6] (fun s6 wr => ∃ k : Nat, k ≤ (rd_L1 l0_2 (i : Int)).length ∧ s6 = .int .i64 k ∧ qab ((chkR i ((rd_L1 l0_2 (i : Int)).drop k) k && (rowsR (l0_0.length + 1) (l0_2.drop (i + 1)) (i + 1) && R3)) = r) ∧ qab (BIN w gb #[.slice A0_0 l0_0.length c0_0, .slice A0_1 l0_1.length c0_1, .slice (some ad) l0_2.length c0_2] wr) ∧ qab (Below wP.heap.size wP wr)) (fun s _ => (rd_L1 l0_2 (i : Int)).length - (intOf s).toNat)
        case atStart => exact ⟨0, by omega, rfl, HF0, HI, ⟨Below.refl _ _⟩⟩
        case round =>
         clear HI HF0
         obtain ⟨k, hk, rfl, HF, HI, HBP⟩ := hrel
         have hcell := ((HBP.out.cell (World.block_lt_of_cell? _ _ HCELL.out)).trans HCELL.out)
         by_cases hlt2 : k < (rd_L1 l0_2 (i : Int)).length
         ·
          have hlt3 : (k : Int) < (rd_L1 l0_2 (i : Int)).length := by omega
          have hk0 : (0 : Int) ≤ k := by omega
          have hw1 : IntKind.i64.wrap ((k : Int) + 1) = (k : Int) + 1 := by rw [i64_w]; unfold wrap64; omega
          have hf := HF.out
          rw [chkR_step i _ k hlt2] at hf
          obtain ⟨ad3, e, hx⟩ := Kd.at_int HRC.out k hk0 hlt3
          subst e
          have HXX := qab.mk hx
          have hx' := (HBP.out.cell (World.block_lt_of_cell? _ _ hx)).trans hx
          simp only [Int.toNat_natCast] at hx'
          clear hx
          generalize rd (rd_L1 l0_2 (i : Int)) (k : Int) = x at hf hx'
          have HC := qab.mk (in60 x 0 72 wr)
          obtain ⟨b, hb⟩ : ∃ b, b = inB x 0 72 := ⟨_, rfl⟩
          rw [← hb] at HC hf
          clear hb HF HXX
          have hq0 : wr.cell? ⟨gb, 0, none⟩ = some (.slice A0_0 l0_0.length c0_0) := (qaa HI.out.b 0).trans rfl; have hq1 : wr.cell? ⟨gb, 1, none⟩ = some (.slice A0_1 l0_1.length c0_1) := (qaa HI.out.b 1).trans rfl; have hq2 : wr.cell? ⟨gb, 2, none⟩ = some (.slice (some ad) l0_2.length c0_2) := (qaa HI.out.b 2).trans rfl
          cases b with
          | false =>
           rw [Bool.false_and, Bool.false_and] at hf
           subst hf
           go_wp2_with (first | (go_at_call 60; with_reducible refine HC.out.mono ?_; rintro e w4 ⟨rfl, hb⟩; have n_HI := qab.mk (HI.out.below hb); have n_HBP := qab.mk (qad HBP.out hb); have n_c := (hb.cell (World.block_lt_of_cell? _ _ hcell)).trans hcell; have n_x := (hb.cell (World.block_lt_of_cell? _ _ hx')).trans hx'; clear HI HBP hcell hx' hb hq0 hq1 hq2; have HI := n_HI; have HBP := n_HBP; have hcell := n_c; have hx' := n_x; clear n_HI n_HBP n_c n_x; have hq0 : w4.cell? ⟨gb, 0, none⟩ = some (.slice A0_0 l0_0.length c0_0) := (qaa HI.out.b 0).trans rfl; have hq1 : w4.cell? ⟨gb, 1, none⟩ = some (.slice A0_1 l0_1.length c0_1) := (qaa HI.out.b 1).trans rfl; have hq2 : w4.cell? ⟨gb, 2, none⟩ = some (.slice (some ad) l0_2.length c0_2) := (qaa HI.out.b 2).trans rfl))
           go_ret
           exact ⟨rfl, HI.out.hb⟩
          | true =>
           rw [Bool.true_and] at hf
           by_cases hik : i = k
           ·
            have e1 : ((i : Int) == (k : Int)) = true := by simp [hik]
            have e2 : (i != k) = false := by simp [hik]
            rw [e2, Bool.false_or] at hf
            clear hik e2
            by_cases hx0 : x = 0
            ·
             have e3 : (x != 0) = false := by simp [hx0]
             have e4 : (x == 0) = true := by simp [hx0]
             rw [e4, Bool.true_and] at hf
             clear hx0 e4
             have HF := qab.mk hf
             clear hf
             go_wp2_with (first | (go_at_call 60; with_reducible refine HC.out.mono ?_; rintro e w4 ⟨rfl, hb⟩; have n_HI := qab.mk (HI.out.below hb); have n_HBP := qab.mk (qad HBP.out hb); have n_c := (hb.cell (World.block_lt_of_cell? _ _ hcell)).trans hcell; have n_x := (hb.cell (World.block_lt_of_cell? _ _ hx')).trans hx'; clear HI HBP hcell hx' hb hq0 hq1 hq2; have HI := n_HI; have HBP := n_HBP; have hcell := n_c; have hx' := n_x; clear n_HI n_HBP n_c n_x; have hq0 : w4.cell? ⟨gb, 0, none⟩ = some (.slice A0_0 l0_0.length c0_0) := (qaa HI.out.b 0).trans rfl; have hq1 : w4.cell? ⟨gb, 1, none⟩ = some (.slice A0_1 l0_1.length c0_1) := (qaa HI.out.b 1).trans rfl; have hq2 : w4.cell? ⟨gb, 2, none⟩ = some (.slice (some ad) l0_2.length c0_2) := (qaa HI.out.b 2).trans rfl))
             go_roundw
             case rel => exact ⟨k + 1, by omega, by go_num, HF, HI, HBP⟩
             case measure => simp [intOf]; omega
            ·
             have e3 : (x != 0) = true := by simp [hx0]
             have e4 : (x == 0) = false := by simp [hx0]
             rw [e4, Bool.false_and, Bool.false_and] at hf
             clear hx0 e4
             subst hf
             go_wp2_with (first | (go_at_call 60; with_reducible refine HC.out.mono ?_; rintro e w4 ⟨rfl, hb⟩; have n_HI := qab.mk (HI.out.below hb); have n_HBP := qab.mk (qad HBP.out hb); have n_c := (hb.cell (World.block_lt_of_cell? _ _ hcell)).trans hcell; have n_x := (hb.cell (World.block_lt_of_cell? _ _ hx')).trans hx'; clear HI HBP hcell hx' hb hq0 hq1 hq2; have HI := n_HI; have HBP := n_HBP; have hcell := n_c; have hx' := n_x; clear n_HI n_HBP n_c n_x; have hq0 : w4.cell? ⟨gb, 0, none⟩ = some (.slice A0_0 l0_0.length c0_0) := (qaa HI.out.b 0).trans rfl; have hq1 : w4.cell? ⟨gb, 1, none⟩ = some (.slice A0_1 l0_1.length c0_1) := (qaa HI.out.b 1).trans rfl; have hq2 : w4.cell? ⟨gb, 2, none⟩ = some (.slice (some ad) l0_2.length c0_2) := (qaa HI.out.b 2).trans rfl))
             go_ret
             exact ⟨rfl, HI.out.hb⟩
           ·
            have e1 : ((i : Int) == (k : Int)) = false := by simp; omega
            have e2 : (i != k) = true := by simp [hik]
            rw [e2, Bool.true_or, Bool.true_and] at hf
            have HF := qab.mk hf
            clear hf
            go_wp2_with (first | (go_at_call 60; with_reducible refine HC.out.mono ?_; rintro e w4 ⟨rfl, hb⟩; have n_HI := qab.mk (HI.out.below hb); have n_HBP := qab.mk (qad HBP.out hb); have n_c := (hb.cell (World.block_lt_of_cell? _ _ hcell)).trans hcell; have n_x := (hb.cell (World.block_lt_of_cell? _ _ hx')).trans hx'; clear HI HBP hcell hx' hb hq0 hq1 hq2; have HI := n_HI; have HBP := n_HBP; have hcell := n_c; have hx' := n_x; clear n_HI n_HBP n_c n_x; have hq0 : w4.cell? ⟨gb, 0, none⟩ = some (.slice A0_0 l0_0.length c0_0) := (qaa HI.out.b 0).trans rfl; have hq1 : w4.cell? ⟨gb, 1, none⟩ = some (.slice A0_1 l0_1.length c0_1) := (qaa HI.out.b 1).trans rfl; have hq2 : w4.cell? ⟨gb, 2, none⟩ = some (.slice (some ad) l0_2.length c0_2) := (qaa HI.out.b 2).trans rfl))
            go_roundw
            case rel => exact ⟨k + 1, by omega, by go_num, HF, HI, HBP⟩
            case measure => simp [intOf]; omega
         ·
          have he := HF.out
          rw [List.drop_eq_nil_of_le (by omega)] at he
          have HF0 : qab ((rowsR (l0_0.length + 1) (l0_2.drop (i + 1)) (i + 1) && R3) = r) := ⟨by simpa [chkR] using he⟩
          clear HF he
          have hw1 : IntKind.i64.wrap ((i : Int) + 1) = (i : Int) + 1 := by rw [i64_w]; unfold wrap64; omega
          have hq0 : wr.cell? ⟨gb, 0, none⟩ = some (.slice A0_0 l0_0.length c0_0) := (qaa HI.out.b 0).trans rfl; have hq1 : wr.cell? ⟨gb, 1, none⟩ = some (.slice A0_1 l0_1.length c0_1) := (qaa HI.out.b 1).trans rfl; have hq2 : wr.cell? ⟨gb, 2, none⟩ = some (.slice (some ad) l0_2.length c0_2) := (qaa HI.out.b 2).trans rfl
          go_wp2_with fail
          go_roundw
          case rel => exact ⟨i + 1, by omega, by go_num, HF0, HI⟩
          case measure => simp [intOf]; omega
       ·
        have d1 : (((rd_L1 l0_2 (i : Int)).length : Int) != (l0_0.length : Int) + 1) = true := by rw [bne_iff_ne]; omega
        rw [decide_eq_false hlen, Bool.false_and, Bool.false_and] at hf
        subst hf
        have hq0 : wO.cell? ⟨gb, 0, none⟩ = some (.slice A0_0 l0_0.length c0_0) := (qaa HI.out.b 0).trans rfl; have hq1 : wO.cell? ⟨gb, 1, none⟩ = some (.slice A0_1 l0_1.length c0_1) := (qaa HI.out.b 1).trans rfl; have hq2 : wO.cell? ⟨gb, 2, none⟩ = some (.slice (some ad) l0_2.length c0_2) := (qaa HI.out.b 2).trans rfl
        go_upto_region 14 with fail
        clear hq0 hq1 hq2
        refine start_ (n := 11) (S := (fun w' => (w'.cell? ⟨gb, 0, none⟩ = some (.slice A0_0 l0_0.length c0_0) ∧ w'.cell? ⟨gb, 2, none⟩ = some (.slice (some ad) l0_2.length c0_2) ∧ w'.cell? (ad.add i) = some (.slice rA (rd_L1 l0_2 i).length rc)))) (ds := []) (msk 11 0) (by kernel_rfl) rfl rfl (HT.out wO.drew (HI.out.below (below_drew (Below.refl _ _))) (hcell.trans rfl)) (fun hHeld => ?_)
        refine pure_ (i := 0) (N := some 42) (v := ?_) (a' := ?_) (msk 11 1) rfl rfl (by kernel_rfl) (fun _ _ _ h => h) (Or.inl ⟨by rfl, ?_⟩) ?_ ?_; rotate_left; (focus (intro w'; go_simp; with_reducible rfl)); rotate_left; (focus (simp only [Act.put, qzA, qzB, qzC, i64_w, i32_w]; rfl))
        refine take_ (i := 1) (N := some 43) (v := ?_) (a' := ?_) (msk 11 2) rfl rfl (by kernel_rfl) (fun _ _ _ h => h) (Or.inl ⟨by rfl, ?_⟩) hHeld ?_ ?_; rotate_left; (focus (rintro w' ⟨s0, s1, s2⟩; go_simp; with_reducible rfl)); rotate_left; (focus (simp only [Act.put, qzA, qzB, qzC, i64_w, i32_w]; rfl))
        refine pure_ (i := 2) (N := some 44) (v := ?_) (a' := ?_) (msk 11 3) rfl rfl (by kernel_rfl) (fun _ _ _ h => h) (Or.inl ⟨by rfl, ?_⟩) ?_ ?_; rotate_left; (focus (intro w'; go_simp; with_reducible rfl)); rotate_left; (focus (simp only [Act.put, qzA, qzB, qzC, i64_w, i32_w]; rfl))
        refine pure_ (i := 3) (N := some 45) (v := ?_) (a' := ?_) (msk 11 4) rfl rfl (by kernel_rfl) (fun _ _ _ h => h) (Or.inl ⟨by rfl, ?_⟩) ?_ ?_; rotate_left; (focus (intro w'; go_simp; with_reducible rfl)); rotate_left; (focus (simp only [Act.put, qzA, qzB, qzC, i64_w, i32_w]; rfl))
        refine take_ (i := 4) (N := some 46) (v := ?_) (a' := ?_) (msk 11 5) rfl rfl (by kernel_rfl) (fun _ _ _ h => h) (Or.inl ⟨by rfl, ?_⟩) hHeld ?_ ?_; rotate_left; (focus (rintro w' ⟨s0, s1, s2⟩; go_simp; with_reducible rfl)); rotate_left; (focus (simp only [Act.put, qzA, qzB, qzC, i64_w, i32_w]; rfl))
        refine pure_ (i := 5) (N := some 47) (v := ?_) (a' := ?_) (msk 11 6) rfl rfl (by kernel_rfl) (fun _ _ _ h => h) (Or.inl ⟨by rfl, ?_⟩) ?_ ?_; rotate_left; (focus (intro w'; go_simp; with_reducible rfl)); rotate_left; (focus (simp only [Act.put, qzA, qzB, qzC, i64_w, i32_w]; rfl))
        refine pure_ (i := 6) (N := some 48) (v := ?_) (a' := ?_) (msk 11 7) rfl rfl (by kernel_rfl) (fun _ _ _ h => h) (Or.inl ⟨by rfl, ?_⟩) ?_ ?_; rotate_left; (focus (intro w'; go_simp; with_reducible rfl)); rotate_left; (focus (simp only [Act.put, qzA, qzB, qzC, i64_w, i32_w]; rfl))
        refine take_ (i := 7) (N := some 49) (v := ?_) (a' := ?_) (msk 11 8) rfl rfl (by kernel_rfl) (fun _ _ _ h => h) (Or.inl ⟨by rfl, ?_⟩) hHeld ?_ ?_; rotate_left; (focus (rintro w' ⟨s0, s1, s2⟩; go_simp; with_reducible rfl)); rotate_left; (focus (simp only [Act.put, qzA, qzB, qzC, i64_w, i32_w]; rfl))
        refine pure_ (i := 8) (N := some 50) (v := ?_) (a' := ?_) (msk 11 9) rfl rfl (by kernel_rfl) (fun _ _ _ h => h) (Or.inl ⟨by rfl, ?_⟩) ?_ ?_; rotate_left; (focus (intro w'; go_simp; with_reducible rfl)); rotate_left; (focus (simp only [Act.put, qzA, qzB, qzC, i64_w, i32_w]; rfl))
        refine pure_ (i := 9) (N := some 51) (v := ?_) (a' := ?_) (msk 11 10) rfl rfl (by kernel_rfl) (fun _ _ _ h => h) (Or.inl ⟨by rfl, ?_⟩) ?_ ?_; rotate_left; (focus (intro w'; go_simp; with_reducible rfl)); rotate_left; (focus (simp only [Act.put, qzA, qzB, qzC, i64_w, i32_w]; rfl))
        refine pure_ (i := 10) (N := some 52) (v := ?_) (a' := ?_) (msk 11 11) rfl rfl (by kernel_rfl) (fun _ _ _ h => h) (Or.inl ⟨by rfl, ?_⟩) ?_ ?_; rotate_left; (focus (intro w'; go_simp; with_reducible rfl)); rotate_left; (focus (simp only [Act.put, qzA, qzB, qzC, i64_w, i32_w]; rfl))
        refine done_ (by kernel_rfl) ?_
        go_wp2_with fail
        go_ret
        exact ⟨rfl, below_drew HI.out.hb⟩
      ·
       have he := HF.out
       rw [List.drop_eq_nil_of_le (by omega)] at he
       have HF0 : qab (R3 = r) := ⟨by simpa [rowsR] using he⟩
       clear HF he
       have hr := HF0.out.symm.trans HE3.out
       unfold finR at hr
       have C1 := in60 (l0_0.length : Int) 1 5
       have C2 := in60 (l0_1.length : Int) 1 72
       obtain ⟨b1, h1⟩ : ∃ b, b = inB (l0_0.length : Int) 1 5 := ⟨_, rfl⟩
       obtain ⟨b2, h2⟩ : ∃ b, b = inB (l0_1.length : Int) 1 72 := ⟨_, rfl⟩
       rw [← h1] at C1 hr
       rw [← h2] at C2 hr
       have HC1 := qab.mk C1
       have HC2 := qab.mk C2
       clear C1 C2 h1 h2 HF0
       have hq0 : wr.cell? ⟨gb, 0, none⟩ = some (.slice A0_0 l0_0.length c0_0) := (qaa HI.out.b 0).trans rfl; have hq1 : wr.cell? ⟨gb, 1, none⟩ = some (.slice A0_1 l0_1.length c0_1) := (qaa HI.out.b 1).trans rfl; have hq2 : wr.cell? ⟨gb, 2, none⟩ = some (.slice A0_2 l0_2.length c0_2) := (qaa HI.out.b 2).trans rfl
       cases b1 with
       | false =>
        rw [Bool.false_and] at hr
        subst hr
        go_wp2_with (first | (go_at_call 60; with_reducible refine (HC1.out _).mono ?_; rintro e w4 ⟨rfl, hb⟩; replace HI := qab.mk (HI.out.below hb); clear hb hq0 hq1 hq2; have hq0 : w4.cell? ⟨gb, 0, none⟩ = some (.slice A0_0 l0_0.length c0_0) := (qaa HI.out.b 0).trans rfl; have hq1 : w4.cell? ⟨gb, 1, none⟩ = some (.slice A0_1 l0_1.length c0_1) := (qaa HI.out.b 1).trans rfl; have hq2 : w4.cell? ⟨gb, 2, none⟩ = some (.slice A0_2 l0_2.length c0_2) := (qaa HI.out.b 2).trans rfl))
        go_ret
        exact ⟨rfl, HI.out.hb⟩
       | true =>
        rw [Bool.true_and] at hr
        cases b2 with
        | false =>
         rw [Bool.false_and] at hr
         subst hr
         go_wp2_with (first | (go_at_call 60; with_reducible refine (HC1.out _).mono ?_; rintro e w4 ⟨rfl, hb⟩; replace HI := qab.mk (HI.out.below hb); clear hb hq0 hq1 hq2; have hq0 : w4.cell? ⟨gb, 0, none⟩ = some (.slice A0_0 l0_0.length c0_0) := (qaa HI.out.b 0).trans rfl; have hq1 : w4.cell? ⟨gb, 1, none⟩ = some (.slice A0_1 l0_1.length c0_1) := (qaa HI.out.b 1).trans rfl; have hq2 : w4.cell? ⟨gb, 2, none⟩ = some (.slice A0_2 l0_2.length c0_2) := (qaa HI.out.b 2).trans rfl) | (go_at_call 60; with_reducible refine (HC2.out _).mono ?_; rintro e w5 ⟨rfl, hb⟩; replace HI := qab.mk (HI.out.below hb); clear hb hq0 hq1 hq2; have hq0 : w5.cell? ⟨gb, 0, none⟩ = some (.slice A0_0 l0_0.length c0_0) := (qaa HI.out.b 0).trans rfl; have hq1 : w5.cell? ⟨gb, 1, none⟩ = some (.slice A0_1 l0_1.length c0_1) := (qaa HI.out.b 1).trans rfl; have hq2 : w5.cell? ⟨gb, 2, none⟩ = some (.slice A0_2 l0_2.length c0_2) := (qaa HI.out.b 2).trans rfl))
         go_ret
         exact ⟨rfl, HI.out.hb⟩
        | true =>
         rw [Bool.true_and] at hr
         have hq : ((l0_2.length : Int) == (l0_0.length : Int) + 1) = r := by rw [hr, Bool.eq_iff_iff, beq_iff_eq, decide_eq_true_eq]; omega
         clear hr
         go_wp2_with (first | (go_at_call 60; with_reducible refine (HC1.out _).mono ?_; rintro e w4 ⟨rfl, hb⟩; replace HI := qab.mk (HI.out.below hb); clear hb hq0 hq1 hq2; have hq0 : w4.cell? ⟨gb, 0, none⟩ = some (.slice A0_0 l0_0.length c0_0) := (qaa HI.out.b 0).trans rfl; have hq1 : w4.cell? ⟨gb, 1, none⟩ = some (.slice A0_1 l0_1.length c0_1) := (qaa HI.out.b 1).trans rfl; have hq2 : w4.cell? ⟨gb, 2, none⟩ = some (.slice A0_2 l0_2.length c0_2) := (qaa HI.out.b 2).trans rfl) | (go_at_call 60; with_reducible refine (HC2.out _).mono ?_; rintro e w5 ⟨rfl, hb⟩; replace HI := qab.mk (HI.out.below hb); clear hb hq0 hq1 hq2; have hq0 : w5.cell? ⟨gb, 0, none⟩ = some (.slice A0_0 l0_0.length c0_0) := (qaa HI.out.b 0).trans rfl; have hq1 : w5.cell? ⟨gb, 1, none⟩ = some (.slice A0_1 l0_1.length c0_1) := (qaa HI.out.b 1).trans rfl; have hq2 : w5.cell? ⟨gb, 2, none⟩ = some (.slice A0_2 l0_2.length c0_2) := (qaa HI.out.b 2).trans rfl))
         go_ret
         exact ⟨by first | rfl | (rw [hq]), HI.out.hb⟩
theorem short_end (l0 : List S39) (l1 : List S37) (l2 : List (List Int)) (i : Int) (k : Nat) : taliklaw04_short.j1 (k + 1) i false l0 l1 l2 = some (decide (l0.length ≤ 8) && (decide (l1.length ≤ 77) && decide (l2.length ≤ 10))) := by
 unfold taliklaw04_short.j1
 rw [if_neg (by decide)]
 by_cases h0 : l0.length ≤ 8
 ·
  rw [if_pos (by omega)]
  by_cases h1 : l1.length ≤ 77
  ·
   rw [if_pos (by omega)]
   simp [h0, h1]
   omega
  ·
   rw [if_neg (by omega)]
   simp [h1]
 ·
  rw [if_neg (by omega)]
  simp [h0]
theorem short_go (l0 : List S39) (l1 : List S37) (l2 : List (List Int)) : ∀ (m i k : Nat), i + m = 10 → 2 * m + 2 ≤ k → taliklaw04_short.l0 k (i : Int) l0 l1 l2 = some (((l2.drop i).take m).all (fun r => decide (r.length ≤ 10)) && (decide (l0.length ≤ 8) && (decide (l1.length ≤ 77) && decide (l2.length ≤ 10)))) := by
 intro m
 induction m with
 | zero =>
  intro i k hi hk
  obtain ⟨k, rfl⟩ : ∃ k', k = k' + 2 := ⟨k - 2, by omega⟩
  unfold taliklaw04_short.l0
  have hd : decide ((i : Int) < 10) = false := by simp; omega
  rw [hd, short_end]
  simp
 | succ m ih =>
  intro i k hi hk
  obtain ⟨k, rfl⟩ : ∃ k', k = k' + 2 := ⟨k - 2, by omega⟩
  unfold taliklaw04_short.l0
  by_cases hlt : i < l2.length
  ·
   have hd : decide ((i : Int) < 10) = true := by simp; omega
   rw [if_pos (by omega), hd]
   unfold taliklaw04_short.j1
   rw [if_pos rfl, if_pos (by omega), if_pos (by omega), rd_L1_at l2 i hlt, List.drop_eq_getElem_cons hlt, List.take_succ_cons, List.all_cons]
   by_cases hr : l2[i].length ≤ 10
   ·
    rw [if_neg (by omega), wsucc i (by omega), ih (i + 1) k (by omega) (by omega)]
    simp [hr]
   ·
    rw [if_pos (by omega)]
    simp [hr]
  ·
   rw [if_neg (by omega), short_end, List.drop_eq_nil_of_le (by omega)]
   simp
theorem short_eq (l0 : List S39) (l1 : List S37) (l2 : List (List Int)) (k : Nat) (hk : 22 ≤ k) : taliklaw04_short.f k l0 l1 l2 = some (shortB l0 l1 l2) := short_go l0 l1 l2 10 0 k rfl (by omega)
theorem chkR_iff (i : Nat) : ∀ (row : List Int) (j : Nat), chkR i row j = true ↔ (∀ h ∈ row, inB h 0 72 = true) ∧ (∀ n (h : n < row.length), j + n = i → row[n] = 0)
 | [], j => by simp [chkR]
 | h :: t, j => by
  simp only [chkR, Bool.and_eq_true, Bool.or_eq_true, chkR_iff i t (j + 1), bne_iff_ne, ne_eq, beq_iff_eq, List.mem_cons, forall_eq_or_imp]
  constructor
  ·
   rintro ⟨h1, h2, h3, h4⟩
   refine ⟨⟨h1, h3⟩, fun n hn he => ?_⟩
   cases n with
   | zero => exact h2.resolve_left (fun hne => hne (by omega))
   | succ n => simpa using h4 n (by simpa using hn) (by omega)
  ·
   rintro ⟨⟨h1, h3⟩, h4⟩
   refine ⟨h1, ?_, h3, fun n hn he => h4 (n + 1) (by simp only [List.length_cons]; omega) (by omega)⟩
   by_cases he : i = j
   ·
    exact .inr (h4 0 (by simp) (by omega))
   ·
    exact .inl he
theorem rowsR_iff (n : Nat) : ∀ (l : List (List Int)) (i : Nat), rowsR n l i = true ↔ ∀ m (h : m < l.length), l[m].length = n ∧ chkR (i + m) l[m] 0 = true
 | [], i => by simp [rowsR]
 | r :: t, i => by
  simp only [rowsR, Bool.and_eq_true, decide_eq_true_eq, rowsR_iff n t (i + 1)]
  constructor
  ·
   rintro ⟨h1, h2, h3⟩ m hm
   cases m with
   | zero => exact ⟨h1, h2⟩
   | succ m => have := h3 m (by simpa using hm); simpa [Nat.add_assoc, Nat.add_comm 1 m] using this
  ·
   intro h
   refine ⟨(h 0 (by simp)).1, (h 0 (by simp)).2, fun m hm => ?_⟩
   have := h (m + 1) (by simpa using hm)
   simpa [Nat.add_assoc, Nat.add_comm 1 m] using this
theorem rows_ways (l0 : List S39) (l2 : List (List Int)) (hl : l2.length = l0.length + 1) : rowsR (l0.length + 1) l2 0 = waysB (l0.length + 1) l2 := by
 rw [Bool.eq_iff_iff, rowsR_iff]
 unfold waysB
 rw [List.all_eq_true]
 constructor
 ·
  intro h j hj
  have hj' : j < l2.length := by simpa using hj
  obtain ⟨h1, h2⟩ := h j hj'
  rw [Nat.zero_add, chkR_iff] at h2
  have e : l2.getD j [] = l2[j] := by simp [hj']
  rw [e]
  unfold rowB
  simp only [Bool.and_eq_true, decide_eq_true_eq, List.all_eq_true]
  have hz := h2.2 j (by omega) (by omega)
  refine ⟨by omega, ?_, h2.1⟩
  simp [rd, show j < l2[j].length by omega, hz]
 ·
  intro h m hm
  have h1 := h m (by simpa using hm)
  have e : l2.getD m [] = l2[m] := by simp [hm]
  rw [e] at h1
  unfold rowB at h1
  simp only [Bool.and_eq_true, decide_eq_true_eq, List.all_eq_true] at h1
  obtain ⟨h2, h3, h4⟩ := h1
  have h5 : l2[m].length = l0.length + 1 := by omega
  refine ⟨h5, ?_⟩
  rw [Nat.zero_add, chkR_iff]
  refine ⟨h4, fun n hn he => ?_⟩
  obtain rfl : n = m := by omega
  simpa [rd, hn] using h3
theorem net_eq (l0 : List S39) (l1 : List S37) (l2 : List (List Int)) (hs : Short l0 l1 l2) (k : Nat) (hk : 240 ≤ k) : talikref04_Net.f l0 l1 l2 = some (validB l0 l1 l2) := by
 have h' : talikref04_Net.f l0 l1 l2 = some (l0.all loopB && (l1.all (fun s => spanB s 0 1000) && (rowsR (l0.length + 1) l2 0 && finR l0 l1 l2))) := by
  unfold talikref04_Net.f
  rw [if_pos (of_short hs)]
 rw [h']
 congr 1
 unfold finR validB
 by_cases hl : l2.length = l0.length + 1
 ·
  have e1 : decide ((l2.length : Int) = (l0.length : Int) + 1) = true := by simp; omega
  rw [rows_ways l0 l2 hl, e1]
  simp only [hl, decide_true, Bool.and_true, Bool.true_and]
  cases l0.all loopB <;> cases (l1.all fun s => spanB s 0 1000) <;> cases waysB ((l0.length : Int) + 1) l2 <;> cases inB (l0.length : Int) 1 5 <;> cases inB (l1.length : Int) 1 72 <;> simp
 ·
  have e1 : decide ((l2.length : Int) = (l0.length : Int) + 1) = false := by simp; omega
  rw [e1]
  simp [hl]
end Go.Proofs.Ytipphcjgdebecaa.PA
namespace Go.Proofs.Ytipphcjgdebecaa.PA
open Go.RowKit Go.Shelf Go.Proofs.YtipphcjgdebecaaW.PrintWords Go.Proofs.YtipphcjgdebecaaW.PrintLast Go.Proofs.YtipphcjgdebecaaW.PrintMore
attribute [local go_sem] qas qau max_two min_two qao qap qat qav
theorem rd_at (l : List Int) (i : Nat) (h : i < l.length) : rd l (i : Int) = l[i] := by simp [rd, h]
theorem fault_rng {l0 : List S39} {f : Int} (h : inFault l0 f = true) : 0 ≤ f ∧ f < ((2 ^ l0.length : Nat) : Int) := by
 unfold inFault inB at h
 simp only [Bool.and_eq_true, decide_eq_true_eq] at h
 exact ⟨h.1, by omega⟩
end Go.Proofs.Ytipphcjgdebecaa.PA
namespace Go.Proofs.Ytipphcjgdebecaa.PA
open Go.RowKit Go.Proofs.YtipphcjgdebecaaW.PrintWords Go.Proofs.YtipphcjgdebecaaW.PrintLast Go.Proofs.YtipphcjgdebecaaW.PrintMore
attribute [local go_sem] qas qau max_two min_two qao qap qat qav
def endL (L : S39) (l1 : List S37) (n : Nat) (most : Bool) : List S44 := (List.range n).map fun h : Nat => ⟨if most = true then L.f1.f1 else L.f1.f0, if most = true then (rd_T37 l1 h).f1 else (rd_T37 l1 h).f0, false⟩
theorem endL_succ (L : S39) (l1 : List S37) (n : Nat) (most : Bool) : endL L l1 (n + 1) most = endL L l1 n most ++ [⟨if most = true then L.f1.f1 else L.f1.f0, if most = true then (rd_T37 l1 n).f1 else (rd_T37 l1 n).f0, false⟩] := by simp [endL, List.range_succ]
structure WMI (w : World) (gb g6 g7 : Nat) (nb : Array Value) (L : S39) (W : World) : Prop where
 b : W.heap[gb]? = some (.cells nb 26 (0, 0))
 r : W.heap[g6]? = some (.cells #[.int .i64 0, .int .i64 0] 37 (0, 0))
 l : W.heap[g7]? = some (.cells #[.int .i64 L.f0.f0, .int .i64 L.f0.f1, .int .i64 L.f1.f0, .int .i64 L.f1.f1, .int .i64 L.f2.f0, .int .i64 L.f2.f1, .int .i64 L.f3, .int .i64 L.f4, .int .i64 L.f5, .int .i64 L.f6, .int .i64 L.f7.f0, .int .i64 L.f7.f1] 39 (0, 0))
 hb : Below w.heap.size w W
 ge : w.heap.size ≤ g6
theorem WMI.below {w W W' : World} {gb g6 g7 : Nat} {nb : Array Value} {L : S39} (h : WMI w gb g6 g7 nb L W) (hb : Below W.heap.size W W') : WMI w gb g6 g7 nb L W' := ⟨qae h.b hb, qae h.r hb, qae h.l hb, qad h.hb hb, h.ge⟩
end Go.Proofs.Ytipphcjgdebecaa.PA
namespace Go.Proofs.Ytipphcjgdebecaa.PA
open Go.RowKit Go.Shelf Go.Proofs.YtipphcjgdebecaaW.PrintWords Go.Proofs.YtipphcjgdebecaaW.PrintLast Go.Proofs.YtipphcjgdebecaaW.PrintMore
attribute [local go_sem] qas qau max_two min_two qao qap qat qav
def cold (k c w : Int) : Int := w - min w (k * (w + c) / 1000)
theorem cold_bd {k c w : Int} (k0 : 0 ≤ k) (c0 : 0 ≤ c) (w0 : 0 ≤ w) : 0 ≤ cold k c w ∧ cold k c w ≤ w := by
 have h : 0 ≤ k * (w + c) := Int.mul_nonneg k0 (by omega)
 unfold cold
 omega
theorem cold_mono {k k' c c' w w' : Int} (k1 : k' ≤ 1000) (hk : k ≤ k') (k0 : 0 ≤ k) (hc : c ≤ c') (c0 : 0 ≤ c) (w0 : 0 ≤ w') (hw : w' ≤ w) : cold k' c' w' ≤ cold k c w := by
 have h1 : k * (w' + c) ≤ k' * (w' + c') := Int.mul_le_mul hk (by omega) (by omega) (by omega)
 have h2 : k * (w + c) = k * (w' + c) + k * (w - w') := by rw [← Int.mul_add]; congr 1; omega
 have h3 : k * (w - w') ≤ 1000 * (w - w') := Int.mul_le_mul_of_nonneg_right (by omega) (by omega)
 have h4 : 0 ≤ k * (w' + c) := Int.mul_nonneg k0 (by omega)
 have h5 : 0 ≤ k * (w - w') := Int.mul_nonneg k0 (by omega)
 unfold cold
 omega
theorem loss_tdiv {k c w : Int} (k0 : 0 ≤ k) (k1 : k ≤ 1000) (c0 : 0 ≤ c) (c1 : c ≤ 1000) (w0 : 0 ≤ w) (w1 : w ≤ 1000) : wrap64 (Int.tdiv (wrap64 (k * wrap64 (w + c))) 1000) = k * (w + c) / 1000 ∧ 0 ≤ k * (w + c) / 1000 ∧ k * (w + c) / 1000 ≤ 2000 := by
 obtain ⟨p0, p1⟩ := mul_small k0 k1 (b := w + c) (B := 2000) (by omega) (by omega)
 rw [wrap_id (x := w + c) (by omega) (by omega), wrap_id (x := k * (w + c)) (by omega) (by omega), Int.tdiv_eq_ediv_of_nonneg p0, wrap_id (by omega) (by omega)]
 exact ⟨rfl, by omega, by omega⟩
theorem cold_prog {k c w : Int} (k0 : 0 ≤ k) (k1 : k ≤ 1000) (c0 : 0 ≤ c) (c1 : c ≤ 1000) (w0 : 0 ≤ w) (w1 : w ≤ 1000) : wrap64 (w - lossV k c w) = cold k c w := by
 obtain ⟨e, d0, d1⟩ := loss_tdiv k0 k1 c0 c1 w0 w1
 have hl : lossV k c w = min (k * (w + c) / 1000) w := by
  show mn (wrap64 (Int.tdiv (wrap64 (k * (wrap64 (w + c)))) 1000)) (wrap64 (w + 0)) = _
  rw [e, mn_min, wrap_id (x := w + 0) (by omega) (by omega), Int.add_zero]
 rw [hl]
 unfold cold
 rw [wrap_id (by omega) (by omega)]
 omega
def Unfed (T : S44) : Prop := T.f2 = false ∧ 0 ≤ T.f0 ∧ T.f0 ≤ 1000 ∧ 0 ≤ T.f1 ∧ T.f1 ≤ 1000
def coldL (w : Int) (l : List S44) : Int := l.foldl (fun x T => cold T.f0 T.f1 x) w
theorem coldL_bd : ∀ (l : List S44) (w : Int), (∀ T ∈ l, Unfed T) → 0 ≤ w → 0 ≤ coldL w l ∧ coldL w l ≤ w
 | [], w, _, h0 => ⟨h0, Int.le_refl _⟩
 | T :: t, w, h, h0 => by
  have hT := h T (by simp)
  have h1 := cold_bd hT.2.1 hT.2.2.2.1 h0
  have h2 := coldL_bd t (cold T.f0 T.f1 w) (fun x hx => h x (by simp [hx])) h1.1
  show 0 ≤ coldL (cold T.f0 T.f1 w) t ∧ coldL (cold T.f0 T.f1 w) t ≤ w
  omega
theorem rdT37_at (l1 : List S37) (h : Nat) (hh : h < l1.length) : rd_T37 l1 (h : Int) = l1[h] := by simp [rd_T37, hh]
theorem frost_at {l0 : List S39} {l1 : List S37} {l2 : List (List Int)} (hN : NetOk l0 l1 l2) (h : Nat) (hh : h < l1.length) : 0 ≤ (rd_T37 l1 (h : Int)).f0 ∧ (rd_T37 l1 (h : Int)).f0 ≤ (rd_T37 l1 (h : Int)).f1 ∧ (rd_T37 l1 (h : Int)).f1 ≤ 1000 := by
 rw [rdT37_at l1 h hh]
 exact hN.frost _ (List.getElem_mem hh)
theorem endL_unfed {l0 : List S39} {l1 : List S37} {l2 : List (List Int)} (hN : NetOk l0 l1 l2) {L : S39} (hL : LoopOk L) (n : Nat) (hn : n ≤ l1.length) (most : Bool) : ∀ T ∈ endL L l1 n most, Unfed T := by
 intro T hT
 unfold endL at hT
 simp only [List.mem_map, List.mem_range] at hT
 obtain ⟨h, hh, rfl⟩ := hT
 have hf := frost_at hN h (by omega)
 have k0 := hL.k0
 have k1 := hL.k1
 have k2 := hL.k2
 unfold Unfed
 cases most <;> simp <;> omega
def lowW (L : S39) (l1 : List S37) (n : Nat) : Int := coldL L.f0.f0 (endL L l1 n true)
def highW (L : S39) (l1 : List S37) (n : Nat) : Int := coldL L.f0.f1 (endL L l1 n false)
theorem low_bd {l0 : List S39} {l1 : List S37} {l2 : List (List Int)} (hN : NetOk l0 l1 l2) {L : S39} (hL : LoopOk L) (n : Nat) (hn : n ≤ l1.length) : 0 ≤ lowW L l1 n ∧ lowW L l1 n ≤ 1000 := by
 have h := coldL_bd _ L.f0.f0 (endL_unfed hN hL n hn true) (by have := hL.w0; omega)
 have := hL.w1
 have := hL.w2
 unfold lowW
 omega
theorem high_bd {l0 : List S39} {l1 : List S37} {l2 : List (List Int)} (hN : NetOk l0 l1 l2) {L : S39} (hL : LoopOk L) (n : Nat) (hn : n ≤ l1.length) : 0 ≤ highW L l1 n ∧ highW L l1 n ≤ 1000 := by
 have h := coldL_bd _ L.f0.f1 (endL_unfed hN hL n hn false) (by have := hL.w0; have := hL.w1; omega)
 have := hL.w2
 unfold highW
 omega
theorem coldL_append (w : Int) (l : List S44) (T : S44) : coldL w (l ++ [T]) = cold T.f0 T.f1 (coldL w l) := by simp [coldL]
theorem low_succ (L : S39) (l1 : List S37) (n : Nat) : lowW L l1 (n + 1) = cold L.f1.f1 (rd_T37 l1 n).f1 (lowW L l1 n) := by
 unfold lowW
 rw [endL_succ, coldL_append]
 rfl
theorem high_succ (L : S39) (l1 : List S37) (n : Nat) : highW L l1 (n + 1) = cold L.f1.f0 (rd_T37 l1 n).f0 (highW L l1 n) := by
 unfold highW
 rw [endL_succ, coldL_append]
 rfl
theorem bitB_zero (i : Int) : bitB 0 i = false := by
 unfold bitB
 rw [Int.zero_ediv]
 rfl
theorem warmth_at {l0 : List S39} {l1 : List S37} {l2 : List (List Int)} (hN : NetOk l0 l1 l2) (i : Int) (i0 : 0 ≤ i) (i1 : i < l0.length) :
  ∀ n : Nat, n ≤ l1.length → wAt (fun h x => leastV l0 l1 0 i h x) (qaj l0 i).f0.f0 n = lowW (qaj l0 i) l1 n ∧ wAt (fun h x => greatestV l0 l1 0 i h x) (qaj l0 i).f0.f1 n = highW (qaj l0 i) l1 n := by
 have hL := hN.loops _ (rdT39_mem i0 i1)
 have k0 := hL.k0
 have k1 := hL.k1
 have k2 := hL.k2
 intro n
 induction n with
 | zero => intro _; exact ⟨rfl, rfl⟩
 | succ n ih =>
  intro hn
  obtain ⟨h1, h2⟩ := ih (by omega)
  have hf := frost_at hN n (by omega)
  have hl := low_bd hN hL n (by omega)
  have hh := high_bd hN hL n (by omega)
  rw [low_succ, high_succ]
  refine ⟨?_, ?_⟩
  ·
   show leastV l0 l1 0 i n (wAt (fun h x => leastV l0 l1 0 i h x) (qaj l0 i).f0.f0 n) = _
   rw [h1]
   unfold leastV
   rw [bitB_zero]
   exact cold_prog (by show 0 ≤ (qaj l0 i).f1.f1; omega) k2 (by omega) hf.2.2 hl.1 hl.2
  ·
   show greatestV l0 l1 0 i n (wAt (fun h x => greatestV l0 l1 0 i h x) (qaj l0 i).f0.f1 n) = _
   rw [h2]
   unfold greatestV
   rw [bitB_zero]
   exact cold_prog k0 (by show (qaj l0 i).f1.f0 ≤ 1000; omega) hf.1 (by omega) hh.1 hh.2
def rowW (L : S39) (l1 : List S37) (n : Nat) : List S37 := (List.range n).map fun h => ⟨lowW L l1 (h + 1), highW L l1 (h + 1)⟩
theorem rowW_length (L : S39) (l1 : List S37) (n : Nat) : (rowW L l1 n).length = n := by simp [rowW]
theorem warmthV_eq {l0 : List S39} {l1 : List S37} {l2 : List (List Int)} (hN : NetOk l0 l1 l2) (i : Int) (i0 : 0 ≤ i) (i1 : i < l0.length) : warmthV l0 l1 0 i = rowW (qaj l0 i) l1 l1.length := by
 unfold warmthV rowW
 refine List.map_congr_left fun h hh => ?_
 have h1 := warmth_at hN i i0 i1 (h + 1) (by have := List.mem_range.1 hh; omega)
 rw [h1.1, h1.2]
theorem low_high {l0 : List S39} {l1 : List S37} {l2 : List (List Int)} (hN : NetOk l0 l1 l2) {L : S39} (hL : LoopOk L) : ∀ n : Nat, n ≤ l1.length → lowW L l1 n ≤ highW L l1 n := by
 intro n
 induction n with
 | zero => intro _; exact hL.w1
 | succ n ih =>
  intro hn
  have hf := frost_at hN n (by omega)
  have hl := low_bd hN hL n (by omega)
  rw [low_succ, high_succ]
  exact cold_mono hL.k2 hL.k1 hL.k0 hf.2.1 hf.1 hl.1 (ih (by omega))
theorem rowW_ok {l0 : List S39} {l1 : List S37} {l2 : List (List Int)} (hN : NetOk l0 l1 l2) {L : S39} (hL : LoopOk L) : ∀ s ∈ rowW L l1 l1.length, 0 ≤ s.f0 ∧ s.f0 ≤ s.f1 := by
 intro s hs
 unfold rowW at hs
 simp only [List.mem_map, List.mem_range] at hs
 obtain ⟨h, hh, rfl⟩ := hs
 exact ⟨(low_bd hN hL (h + 1) (by omega)).1, low_high hN hL (h + 1) (by omega)⟩
end Go.Proofs.Ytipphcjgdebecaa.PA
namespace Go.Proofs.Ytipphcjgdebecaa.PA
open Go.RowKit Go.Proofs.YtipphcjgdebecaaW.PrintWords Go.Proofs.YtipphcjgdebecaaW.PrintLast Go.Proofs.YtipphcjgdebecaaW.PrintMore
attribute [local go_sem] qas qau max_two min_two qao qap qat qav
end Go.Proofs.Ytipphcjgdebecaa.PA
namespace Go.Proofs.Ytipphcjgdebecaa.PA
open Go.RowKit Go.Shelf Go.Proofs.YtipphcjgdebecaaW.PrintWords Go.Proofs.YtipphcjgdebecaaW.PrintLast Go.Proofs.YtipphcjgdebecaaW.PrintMore
attribute [local go_sem] qas qau max_two min_two qao qap qat qav
section
variable {l0 : List S39} {l1 : List S37} {l2 : List (List Int)}
theorem inB_of {x a b : Int} (h0 : a ≤ x) (h1 : x ≤ b) : inB x a b = true := by
 unfold inB
 simp [h0, h1]
theorem frz_can : ∀ (t : List S37) (h can : Int), 0 ≤ h → (∀ s ∈ t, 0 ≤ s.f0 ∧ s.f0 ≤ s.f1) →
  (0 ≤ can → (frz t h can).1 = can) ∧ (can < 0 → ∀ k (hk : k < t.length), t[k].f0 = 0 → 0 ≤ (frz t h can).1 ∧ (frz t h can).1 ≤ h + k + 1)
 | [], h, can, _, _ => ⟨fun _ => rfl, fun _ k hk => by simp at hk⟩
 | s :: t, h, can, h0, hs => by
  have h1 := hs s (by simp)
  unfold frz
  constructor
  ·
   intro hc
   have e : (if s.f0 = 0 ∧ can < 0 then h + 1 else can) = can := if_neg (by omega)
   rw [e]
   split
   ·
    rfl
   ·
    exact (frz_can t (h + 1) can (by omega) (fun x hx => hs x (by simp [hx]))).1 hc
  ·
   intro hc k hk hz
   cases k with
   | zero =>
    have hz' : s.f0 = 0 := hz
    have e : (if s.f0 = 0 ∧ can < 0 then h + 1 else can) = h + 1 := if_pos ⟨hz', hc⟩
    rw [e]
    split
    ·
     dsimp only; omega
    ·
     have := (frz_can t (h + 1) (h + 1) (by omega) (fun x hx => hs x (by simp [hx]))).1 (by omega)
     omega
   | succ k =>
    have hz' : (t[k]'(by simpa using hk)).f0 = 0 := by simpa using hz
    by_cases hs1 : s.f1 = 0
    ·
     have e : (if s.f0 = 0 ∧ can < 0 then h + 1 else can) = h + 1 := if_pos ⟨by omega, hc⟩
     rw [if_pos hs1, e]
     dsimp only
     omega
    ·
     rw [if_neg hs1]
     by_cases hs0 : s.f0 = 0
     ·
      rw [if_pos ⟨hs0, hc⟩]
      have := (frz_can t (h + 1) (h + 1) (by omega) (fun x hx => hs x (by simp [hx]))).1 (by omega)
      omega
     ·
      rw [if_neg (fun h => hs0 h.1)]
      have := (frz_can t (h + 1) can (by omega) (fun x hx => hs x (by simp [hx]))).2 hc k (by simpa using hk) hz'
      push_cast
      omega
theorem frz_must : ∀ (t : List S37) (h can : Int), (frz t h can).2 = -1 ∨ ∃ k, ∃ hk : k < t.length, (frz t h can).2 = h + k + 1 ∧ t[k].f1 = 0
 | [], h, can => .inl rfl
 | s :: t, h, can => by
  unfold frz
  by_cases hz : s.f1 = 0
  ·
   rw [if_pos hz]
   exact .inr ⟨0, by simp, by simp, hz⟩
  ·
   rw [if_neg hz]
   rcases frz_must t (h + 1) (if s.f0 = 0 ∧ can < 0 then h + 1 else can) with h1 | ⟨k, hk, h1, h2⟩
   ·
    exact .inl h1
   ·
    exact .inr ⟨k + 1, by simpa using hk, by rw [h1]; push_cast; omega, by simpa using h2⟩
theorem rowW_at (L : S39) (l1 : List S37) (n k : Nat) (hk : k < (rowW L l1 n).length) : (rowW L l1 n)[k] = ⟨lowW L l1 (k + 1), highW L l1 (k + 1)⟩ := by simp [rowW]
theorem can_le (hv : validB l0 l1 l2 = true) (i : Int) (i0 : 0 ≤ i) (i1 : i < l0.length) (n : Nat) (hn0 : 1 ≤ n) (hn : n ≤ l1.length) (hz : lowW (qaj l0 i) l1 n = 0) : 1 ≤ canV l0 l1 i ∧ canV l0 l1 i ≤ n := by
 have hN := net_ok hv
 have hL := hN.loops _ (rdT39_mem i0 i1)
 have h := (frz_can (rowW (qaj l0 i) l1 l1.length) 0 (-1) (Int.le_refl _) (rowW_ok hN hL)).2 (by decide) (n - 1) (by rw [rowW_length]; omega) (by rw [rowW_at]; rw [show n - 1 + 1 = n from by omega]; exact hz)
 have hb := can_bd l0 l1 i
 have e : canV l0 l1 i = (frz (rowW (qaj l0 i) l1 l1.length) 0 (-1)).1 := by unfold canV; rw [warmthV_eq hN i i0 i1]
 rw [← e] at h
 omega
end
end Go.Proofs.Ytipphcjgdebecaa.PA
namespace Go.Proofs.Ytipphcjgdebecaa.PA
open Go.RowKit Go.Proofs.YtipphcjgdebecaaW.PrintWords Go.Proofs.YtipphcjgdebecaaW.PrintLast Go.Proofs.YtipphcjgdebecaaW.PrintMore
attribute [local go_sem] qas qau max_two min_two qao qap qat qav
structure RefO (w : World) (gb : Nat) (nb : Array Value) (vl : Value) (ll : List (List Int)) (vd : Value) (dd : List Int) (W : World) : Prop where
 b : W.heap[gb]? = some (.cells nb 26 (0, 0))
 hb : Below w.heap.size w W
 l : (Kd.slice 3 (Kd.int .i64)).R 47 W w.heap.size (fun _ => True) vl ll
 d : Kd.R (Kd.int .i64) 3 W w.heap.size (fun _ => True) vd dd
theorem RefO.below {w W W' : World} {gb : Nat} {nb : Array Value} {vl vd : Value} {ll : List (List Int)} {dd : List Int} (h : RefO w gb nb vl ll vd dd W) (hb : Below W.heap.size W W') : RefO w gb nb vl ll vd dd W' := ⟨qae h.b hb, qad h.hb hb, Kd.R_below h.l hb, Kd.R_below h.d hb⟩
structure RefB (w : World) (gb : Nat) (nb : Array Value) (W : World) : Prop where
 b : W.heap[gb]? = some (.cells nb 26 (0, 0))
 hb : Below w.heap.size w W
theorem RefB.below {w W W' : World} {gb : Nat} {nb : Array Value} (h : RefB w gb nb W) (hb : Below W.heap.size W W') : RefB w gb nb W' := ⟨qae h.b hb, qad h.hb hb⟩
end Go.Proofs.Ytipphcjgdebecaa.PA
namespace Go.Proofs.Ytipphcjgdebecaa.PA
open Go.RowKit Go.Shelf Go.Proofs.YtipphcjgdebecaaW.PrintWords Go.Proofs.YtipphcjgdebecaaW.PrintLast Go.Proofs.YtipphcjgdebecaaW.PrintMore
attribute [local go_sem] qas qau max_two min_two qao qap qat qav
end Go.Proofs.Ytipphcjgdebecaa.PA
namespace Go.Proofs.Ytipphcjgdebecaa.PA
open Go.RowKit Go.Proofs.YtipphcjgdebecaaW.PrintWords Go.Proofs.YtipphcjgdebecaaW.PrintLast Go.Proofs.YtipphcjgdebecaaW.PrintMore
attribute [local go_sem] qas qau max_two min_two qao qap qat qav
end Go.Proofs.Ytipphcjgdebecaa.PA
namespace Go.Proofs.Ytipphcjgdebecaa.PA
open Go.RowKit Go.Shelf Go.Proofs.YtipphcjgdebecaaW.PrintWords Go.Proofs.YtipphcjgdebecaaW.PrintLast Go.Proofs.YtipphcjgdebecaaW.PrintMore
attribute [local go_sem] qas qau max_two min_two qao qap qat qav
end Go.Proofs.Ytipphcjgdebecaa.PA
namespace Go.Proofs.Ytipphcjgdebecaa.PA
open Go.RowKit Go.Proofs.YtipphcjgdebecaaW.PrintWords Go.Proofs.YtipphcjgdebecaaW.PrintLast Go.Proofs.YtipphcjgdebecaaW.PrintMore
attribute [local go_sem] qas qau max_two min_two qao qap qat qav
end Go.Proofs.Ytipphcjgdebecaa.PA
