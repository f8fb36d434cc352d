/- What functions of the program answer. No condition. -/
import Derived.Test.YtafkanmioinbiaaSC
import Derived.Test.YtafkanmioinbiaaSD
import Derived.Test.YtafkanmioinbiaaFyA
import Derived.Test.YtafkanmioinbiaaSF
import Derived.RangeFuncNested
import Derived.RangeFuncBound
import Derived.RangeFuncCalls
import Derived.RangeFuncLeaves
import Derived.RangeFuncBox
import Derived.Shelf.Abstract
import Derived.Shelf.RegionOpen
import Derived.OwnWalkIn
import Derived.TacticsInMore
import Derived.LoopNIn
import Derived.LoopIn
import Derived.Recover
import Derived.Defers
import Derived.WalkLawsBesides
import Derived.WalkSmall
import Derived.Test.YtafkanmioinbiaaSE
set_option linter.all false
set_option maxRecDepth 100000
set_option maxHeartbeats 8000000
namespace Go.Proofs.Ytafkanmioinbiaa.SA
open Go.RowKit Go.Proofs.YtafkanmioinbiaaW.PrintWords Go.Proofs.YtafkanmioinbiaaW.PrintLast Go.Proofs.YtafkanmioinbiaaW.PrintMore
attribute [local go_sem] max2_int min2_int max_two min_two qay qaz max_four min_four
def talikref07_Dam.f (a0_0 : Int) (l0_1 : List (S44)) (l0_2 : List Int) (l0_3 : List Int) (l0_4 : List (S41)) (l0_5 : List (S95)) (l1 : List Int) : Option (Bool) := some (damB l0_1 l1)
theorem talikref07_Dam.calls (a0_0 : Int) (A0_1 : Option Addr) (c0_1 : Nat) (l0_1 : List (S44)) (A0_2 : Option Addr) (c0_2 : Nat) (l0_2 : List Int) (A0_3 : Option Addr) (c0_3 : Nat) (l0_3 : List Int) (A0_4 : Option Addr) (c0_4 : Nat) (l0_4 : List (S41)) (A0_5 : Option Addr) (c0_5 : Nat) (l0_5 : List (S95)) (A1 : Option Addr) (c1 : Nat) (l1 : List Int) (r : Bool) (w : World) (hr0_1 : Kd.C k44 w A0_1 l0_1.length l0_1) (hc0_1 : l0_1.length ≤ c0_1) (hr0_2 : Kd.C (Kd.int .i64) w A0_2 l0_2.length l0_2) (hc0_2 : l0_2.length ≤ c0_2) (hr0_3 : Kd.C (Kd.int .i64) w A0_3 l0_3.length l0_3) (hc0_3 : l0_3.length ≤ c0_3) (hr0_4 : Kd.C k41 w A0_4 l0_4.length l0_4) (hc0_4 : l0_4.length ≤ c0_4) (hr0_5 : Kd.C k95 w A0_5 l0_5.length l0_5) (hc0_5 : l0_5.length ≤ c0_5) (hr1 : Kd.C (Kd.int .i64) w A1 l1.length l1) (hc1 : l1.length ≤ c1) (h : talikref07_Dam.f a0_0 l0_1 l0_2 l0_3 l0_4 l0_5 l1 = some r) :
  Calls Try.prog 37 #[.agg #[.int .i64 a0_0, .slice A0_1 l0_1.length c0_1, .slice A0_2 l0_2.length c0_2, .slice A0_3 l0_3.length c0_3, .slice A0_4 l0_4.length c0_4, .slice A0_5 l0_5.length c0_5], .slice A1 l1.length c1] w fun e w' => e = .returned (.bool r) ∧ Below w.heap.size w w' := by
 obtain rfl := Option.some.inj h
 clear h
 have hu27 := Try.underlying27
 have hu44 := Try.underlying44
 have m0 := Kd.C_max hr1
 have m1 := Kd.C_max hr0_1
 have HR := qab.mk hr1
 have HR1 := qab.mk hr0_1
 have HB := qab.mk (Below.refl w.heap.size w)
 obtain ⟨bb, hbb⟩ : ∃ b, wrap64 ((l0_1.length : Int) - 1) = b := ⟨_, rfl⟩
 have hbw : IntKind.i64.wrap ((l0_1.length : Int) - 1) = bb := (i64_w _).trans hbb
 have HBB : qab (bb = (l0_1.length : Int) - 1) := ⟨by rw [← hbb]; unfold wrap64; omega⟩
 clear hr0_1 hr0_2 hr0_3 hr0_4 hr0_5 hr1 hc1 hbb
 go_enter Try.func37, Try.ntmps37
 go_wp2_with ((with_reducible refine qam (N := 2) rfl ?_); refine ze 2 #[.int .i64 a0_0, .slice A0_1 l0_1.length c0_1, .slice A0_2 l0_2.length c0_2, .slice A0_3 l0_3.length c0_3, .slice A0_4 l0_4.length c0_4, .slice A0_5 l0_5.length c0_5] 27 ?_; intro gb hg_gb w2 hbox hb; have BKgb := qab.mk hbox; have n_HB := qab.mk (qae HB.out hb); have GEgb : w.heap.size ≤ gb := (by rw [hg_gb]; exact HB.out.size); clear HB; have HB := n_HB; clear n_HB; obtain ⟨hfgb, hcgb_0, hcgb_1, hcgb_2, hcgb_3, hcgb_4, hcgb_5⟩ := qz6 BKgb.out; clear hbox hb hg_gb)
 go_loopw [5] (fun s5 wr => ∃ k : Nat, k ≤ l1.length ∧ s5 = .int .i64 k ∧ qab (∀ j : Nat, j < k → damAt l0_1 l1 j = true) ∧ qab (wr.heap[gb]? = some (.cells #[.int .i64 a0_0, .slice A0_1 l0_1.length c0_1, .slice A0_2 l0_2.length c0_2, .slice A0_3 l0_3.length c0_3, .slice A0_4 l0_4.length c0_4, .slice A0_5 l0_5.length c0_5] 27 (0, 0))) ∧ qab (Below w.heap.size w wr)) (fun s _ => l1.length - (intOf s).toNat)
 case atStart => exact ⟨0, by omega, rfl, ⟨fun j h1 => by omega⟩, BKgb, HB⟩
 case round =>
  clear BKgb HB hfgb hcgb_0 hcgb_1 hcgb_2 hcgb_3 hcgb_4 hcgb_5
  obtain ⟨k, hk1, rfl, HN, BKgb, HB⟩ := hrel
  by_cases hlt : k < l1.length
  ·
   obtain ⟨ad, e, t1⟩ := Kd.at_int HR.out k (by omega) (by omega)
   cases e
   simp only [Int.toNat_natCast] at t1
   replace t1 := (HB.out.cell (World.block_lt_of_cell? w _ t1)).trans t1
   obtain ⟨x, hx⟩ : ∃ x, x = rd l1 k := ⟨_, rfl⟩
   rw [← hx] at t1
   have HX : qab (l1.getD k 0 = x) := ⟨by rw [hx]; simp [rd]⟩
   clear hx
   have hb1 : inB x 0 ((l0_1.length : Int) - 1) = inB x 0 bb := by rw [HBB.out]
   have hin := rin_calls x 0 bb
   have HA : qab (damAt l0_1 l1 k = (inB x 0 bb && ((decide (k = 0) || decide (l1.getD (k - 1) 0 < x)) && decide (0 ≤ (qar l0_1 x).f3)))) := ⟨by unfold damAt; rw [HX.out, hb1]⟩
   clear hb1
   go_upto_region 4 with fail
   cases hib : inB x 0 bb with
   | false =>
    rw [hib] at hin
    have HIN := qab.mk hin
    have T1 := qab.mk t1
    have HV : qab (damB l0_1 l1 = false) := ⟨range_all_false k hlt (by rw [HA.out, hib]; rfl)⟩
    clear t1 hin hib
    have HT : qab (∀ W, Below wr.heap.size wr W → (W.cell? (ad.add k) = some (.int .i64 x) ∧ W.cell? ⟨gb, 1, none⟩ = some (.slice A0_1 l0_1.length c0_1) ∧ qab (Below wr.heap.size wr W))) := ⟨fun W h => ⟨(h.cell (World.block_lt_of_cell? wr _ T1.out)).trans T1.out, (qaa (qad BKgb.out h) 1).trans rfl, ⟨h⟩⟩⟩
    refine start_ (n := 38) (S := (fun w' => (w'.cell? (ad.add k) = some (.int .i64 x) ∧ w'.cell? ⟨gb, 1, none⟩ = some (.slice A0_1 l0_1.length c0_1) ∧ qab (Below wr.heap.size wr w')))) (ds := []) (msk 38 0) (by kernel_rfl) rfl rfl (HT.out _ (qav (Below.refl _ _))) (fun hHeld => ?_)
    refine zq 0 1 12 ?_
    refine zq 1 2 13 ?_
    refine zq 2 3 14 ?_
    refine zt3 3 4 15 hHeld ?_
    refine zq 4 5 16 ?_
    refine zt3 5 6 17 hHeld ?_
    refine zq 6 7 18 ?_
    refine zq 7 8 19 ?_
    refine one_ (i := 8) (N := some 20) (msk 38 9) rfl rfl (by kernel_rfl) (by decide) (fun K hK => ?_)
    refine zg Try.func57 #[.int .i64 x, .int .i64 0, .int .i64 bb] ?_
    refine (HIN.out _).mono ?_; rintro e w5 ⟨rfl, hb⟩; have HP5 := qab.mk (HT.out w5 (qae hHeld.2.2.out hb)); clear hb; refine ⟨_, rfl, ?_⟩; refine hK.out _ _ HP5.out (fun hHeld => ?_); clear hK K; refine zn 20 ?_
    refine zq 9 10 21 ?_
    refine zq 10 11 22 ?_
    refine zo 11 12 23 ?_
    refine zo 12 13 24 ?_
    refine zo 13 14 25 ?_
    refine zo 14 15 26 ?_
    refine zo 15 16 27 ?_
    refine zo 16 17 28 ?_
    refine zo 17 18 29 ?_
    refine zo 18 19 30 ?_
    refine zo 19 20 31 ?_
    refine zo 20 21 32 ?_
    refine zo 21 22 33 ?_
    refine zo 22 23 34 ?_
    refine zo 23 24 35 ?_
    refine zo 24 25 36 ?_
    refine zq 25 26 37 ?_
    refine zq 26 27 38 ?_
    refine zo 27 28 39 ?_
    refine zo 28 29 40 ?_
    refine zo 29 30 41 ?_
    refine zo 30 31 42 ?_
    refine zo 31 32 43 ?_
    refine zo 32 33 44 ?_
    refine zo 33 34 45 ?_
    refine zo 34 35 46 ?_
    refine zo 35 36 47 ?_
    refine zo 36 37 48 ?_
    refine zq 37 38 49 ?_
    refine done_ (by kernel_rfl) ?_
    clear hHeld
    have HB9 := qab.mk (qae HB.out HP5.out.2.2.out)
    have BK9 := qab.mk (qad BKgb.out HP5.out.2.2.out)
    go_wp2
    go_ret
    exact ⟨by rw [HV.out]; rfl, HB9.out⟩
   | true =>
    have h01 : 0 ≤ x ∧ x < l0_1.length := by
     have h1 := HBB.out
     unfold inB at hib
     simp only [Bool.and_eq_true, decide_eq_true_eq] at hib
     omega
    rw [hib] at hin HA
    obtain ⟨n, rfl⟩ := Int.eq_ofNat_of_zero_le h01.1
    have hn : n < l0_1.length := by omega
    have HIN := qab.mk hin
    have T1 := qab.mk t1
    clear hin t1 hib h01 HX
    obtain ⟨a1, e, _, _, _, t3⟩ := at_T44 HR1.out n (by omega) (by omega)
    cases e
    simp only [Int.toNat_natCast] at t3
    replace t3 := (HB.out.cell (World.block_lt_of_cell? w _ t3)).trans t3
    obtain ⟨c, hc⟩ : ∃ c, c = (qar l0_1 n).f3 := ⟨_, rfl⟩
    rw [← hc] at t3
    have T3 := qab.mk t3
    rw [show (qar l0_1 ((n : Nat) : Int)).f3 = c from hc.symm, Bool.true_and] at HA
    clear t3 hc
    have hdc : (decide (c < 0)) = !decide (0 ≤ c) := by by_cases h : 0 ≤ c <;> simp [h] <;> omega
    rcases Nat.eq_zero_or_pos k with hk | hk
    ·
     have HW : qab (damAt l0_1 l1 k = decide (0 ≤ c)) := ⟨by rw [HA.out, decide_eq_true hk]; rfl⟩
     have hk0 : decide (0 < (k : Int)) = false := decide_eq_false (by omega)
     have hk0n : decide (0 < k) = false := decide_eq_false (by omega)
     clear hk HA
     have HT : qab (∀ W, Below wr.heap.size wr W → (W.cell? (ad.add k) = some (.int .i64 (n : Int)) ∧ W.cell? ⟨gb, 1, none⟩ = some (.slice (some a1) l0_1.length c0_1) ∧ W.cell? ⟨(a1.add (n * 4)).block, (a1.add (n * 4)).off + 3, none⟩ = some (.int .i64 c) ∧ qab (Below wr.heap.size wr W))) := ⟨fun W h => ⟨(h.cell (World.block_lt_of_cell? wr _ T1.out)).trans T1.out, (qaa (qad BKgb.out h) 1).trans rfl, (h.cell (World.block_lt_of_cell? wr _ T3.out)).trans T3.out, ⟨h⟩⟩⟩
     cases hcc : decide (0 ≤ c) with
     | false =>
      rw [hcc] at HW hdc
      have HV : qab (damB l0_1 l1 = false) := ⟨range_all_false k hlt HW.out⟩
      clear hcc
      refine start_ (n := 38) (S := (fun w' => (w'.cell? (ad.add k) = some (.int .i64 (n : Int)) ∧ w'.cell? ⟨gb, 1, none⟩ = some (.slice (some a1) l0_1.length c0_1) ∧ w'.cell? ⟨(a1.add (n * 4)).block, (a1.add (n * 4)).off + 3, none⟩ = some (.int .i64 c) ∧ qab (Below wr.heap.size wr w')))) (ds := []) (msk 38 0) (by kernel_rfl) rfl rfl (HT.out _ (qav (Below.refl _ _))) (fun hHeld => ?_)
      refine zq 0 1 12 ?_
      refine zq 1 2 13 ?_
      refine zq 2 3 14 ?_
      refine zt4 3 4 15 hHeld ?_
      refine zq 4 5 16 ?_
      refine zt4 5 6 17 hHeld ?_
      refine zq 6 7 18 ?_
      refine zq 7 8 19 ?_
      refine one_ (i := 8) (N := some 20) (msk 38 9) rfl rfl (by kernel_rfl) (by decide) (fun K hK => ?_)
      refine zg Try.func57 #[.int .i64 (n : Int), .int .i64 0, .int .i64 bb] ?_
      refine (HIN.out _).mono ?_; rintro e w5 ⟨rfl, hb⟩; have HP5 := qab.mk (HT.out w5 (qae hHeld.2.2.2.out hb)); clear hb; refine ⟨_, rfl, ?_⟩; refine hK.out _ _ HP5.out (fun hHeld => ?_); clear hK K; refine zn 20 ?_
      refine zq 9 10 21 ?_
      refine zq 10 11 22 ?_
      refine zq 11 12 23 ?_
      refine zq 12 13 24 ?_
      refine zq 13 14 25 ?_
      refine zo 14 15 26 ?_
      refine zo 15 16 27 ?_
      refine zo 16 17 28 ?_
      refine zo 17 18 29 ?_
      refine zo 18 19 30 ?_
      refine zo 19 20 31 ?_
      refine zo 20 21 32 ?_
      refine zo 21 22 33 ?_
      refine zo 22 23 34 ?_
      refine zo 23 24 35 ?_
      refine zq 24 25 36 ?_
      refine zq 25 26 37 ?_
      refine zq 26 27 38 ?_
      refine zq 27 28 39 ?_
      refine zt4 28 29 40 hHeld ?_
      refine zq 29 30 41 ?_
      refine zq 30 31 42 ?_
      refine zq 31 32 43 ?_
      refine zt4 32 33 44 hHeld ?_
      refine zq 33 34 45 ?_
      refine zq 34 35 46 ?_
      refine zt4 35 36 47 hHeld ?_
      refine zq 36 37 48 ?_
      refine zq 37 38 49 ?_
      refine done_ (by kernel_rfl) ?_
      clear hHeld
      have HB9 := qab.mk (qae HB.out HP5.out.2.2.2.out)
      have BK9 := qab.mk (qad BKgb.out HP5.out.2.2.2.out)
      go_wp2
      go_ret
      exact ⟨by rw [HV.out]; rfl, HB9.out⟩
     | true =>
      rw [hcc] at HW hdc
      have HV := HW
      clear hcc
      refine start_ (n := 38) (S := (fun w' => (w'.cell? (ad.add k) = some (.int .i64 (n : Int)) ∧ w'.cell? ⟨gb, 1, none⟩ = some (.slice (some a1) l0_1.length c0_1) ∧ w'.cell? ⟨(a1.add (n * 4)).block, (a1.add (n * 4)).off + 3, none⟩ = some (.int .i64 c) ∧ qab (Below wr.heap.size wr w')))) (ds := []) (msk 38 0) (by kernel_rfl) rfl rfl (HT.out _ (qav (Below.refl _ _))) (fun hHeld => ?_)
      refine zq 0 1 12 ?_
      refine zq 1 2 13 ?_
      refine zq 2 3 14 ?_
      refine zt4 3 4 15 hHeld ?_
      refine zq 4 5 16 ?_
      refine zt4 5 6 17 hHeld ?_
      refine zq 6 7 18 ?_
      refine zq 7 8 19 ?_
      refine one_ (i := 8) (N := some 20) (msk 38 9) rfl rfl (by kernel_rfl) (by decide) (fun K hK => ?_)
      refine zg Try.func57 #[.int .i64 (n : Int), .int .i64 0, .int .i64 bb] ?_
      refine (HIN.out _).mono ?_; rintro e w5 ⟨rfl, hb⟩; have HP5 := qab.mk (HT.out w5 (qae hHeld.2.2.2.out hb)); clear hb; refine ⟨_, rfl, ?_⟩; refine hK.out _ _ HP5.out (fun hHeld => ?_); clear hK K; refine zn 20 ?_
      refine zq 9 10 21 ?_
      refine zq 10 11 22 ?_
      refine zq 11 12 23 ?_
      refine zq 12 13 24 ?_
      refine zq 13 14 25 ?_
      refine zo 14 15 26 ?_
      refine zo 15 16 27 ?_
      refine zo 16 17 28 ?_
      refine zo 17 18 29 ?_
      refine zo 18 19 30 ?_
      refine zo 19 20 31 ?_
      refine zo 20 21 32 ?_
      refine zo 21 22 33 ?_
      refine zo 22 23 34 ?_
      refine zo 23 24 35 ?_
      refine zq 24 25 36 ?_
      refine zq 25 26 37 ?_
      refine zq 26 27 38 ?_
      refine zq 27 28 39 ?_
      refine zt4 28 29 40 hHeld ?_
      refine zq 29 30 41 ?_
      refine zq 30 31 42 ?_
      refine zq 31 32 43 ?_
      refine zt4 32 33 44 hHeld ?_
      refine zq 33 34 45 ?_
      refine zq 34 35 46 ?_
      refine zt4 35 36 47 hHeld ?_
      refine zq 36 37 48 ?_
      refine zq 37 38 49 ?_
      refine done_ (by kernel_rfl) ?_
      clear hHeld
      have HB9 := qab.mk (qae HB.out HP5.out.2.2.2.out)
      have BK9 := qab.mk (qad BKgb.out HP5.out.2.2.2.out)
      go_wp2
      go_roundw
      case rel => exact ⟨k + 1, by omega, by go_num, ⟨fun i hi => by
       rcases Nat.lt_or_ge i k with h | h
       ·
        exact HN.out i h
       ·
        obtain rfl : i = k := by omega
        exact HV.out⟩, BK9, HB9⟩
      case measure => simp [intOf]; omega
    ·
     obtain ⟨j, hj⟩ : ∃ j, k = j + 1 := ⟨k - 1, by omega⟩
     obtain ⟨_, e, t2⟩ := Kd.at_int HR.out j (by omega) (by omega)
     cases e
     simp only [Int.toNat_natCast] at t2
     replace t2 := (HB.out.cell (World.block_lt_of_cell? w _ t2)).trans t2
     obtain ⟨y, hy⟩ : ∃ y, y = rd l1 j := ⟨_, rfl⟩
     rw [← hy] at t2
     have T2 := qab.mk t2
     have HW : qab (damAt l0_1 l1 k = (decide (y < (n : Int)) && decide (0 ≤ c))) := ⟨by rw [HA.out, hy, hj]; simp [rd]⟩
     have hj1 : IntKind.i64.wrap ((k : Int) - 1) = (j : Int) := by rw [i64_w]; unfold wrap64; omega
     have hk0 : decide (0 < (k : Int)) = true := decide_eq_true (by omega)
     have hk0n : decide (0 < k) = true := decide_eq_true (by omega)
     have hjl : j < l1.length := by omega
     clear t2 hy HA hj hk
     by_cases hxy : (n : Int) ≤ y
     ·
      have hd : decide ((n : Int) ≤ y) = true := decide_eq_true hxy
      have HV : qab (damB l0_1 l1 = false) := ⟨range_all_false k hlt (by rw [HW.out, decide_eq_false (show ¬ y < (n : Int) by omega)]; rfl)⟩
      have HT : qab (∀ W, Below wr.heap.size wr W → (W.cell? (ad.add k) = some (.int .i64 (n : Int)) ∧ W.cell? ⟨gb, 1, none⟩ = some (.slice (some a1) l0_1.length c0_1) ∧ W.cell? (ad.add j) = some (.int .i64 y) ∧ qab (Below wr.heap.size wr W))) := ⟨fun W h => ⟨(h.cell (World.block_lt_of_cell? wr _ T1.out)).trans T1.out, (qaa (qad BKgb.out h) 1).trans rfl, (h.cell (World.block_lt_of_cell? wr _ T2.out)).trans T2.out, ⟨h⟩⟩⟩
      clear hxy hdc
      refine start_ (n := 38) (S := (fun w' => (w'.cell? (ad.add k) = some (.int .i64 (n : Int)) ∧ w'.cell? ⟨gb, 1, none⟩ = some (.slice (some a1) l0_1.length c0_1) ∧ w'.cell? (ad.add j) = some (.int .i64 y) ∧ qab (Below wr.heap.size wr w')))) (ds := []) (msk 38 0) (by kernel_rfl) rfl rfl (HT.out _ (qav (Below.refl _ _))) (fun hHeld => ?_)
      refine zq 0 1 12 ?_
      refine zq 1 2 13 ?_
      refine zq 2 3 14 ?_
      refine zt4 3 4 15 hHeld ?_
      refine zq 4 5 16 ?_
      refine zt4 5 6 17 hHeld ?_
      refine zq 6 7 18 ?_
      refine zq 7 8 19 ?_
      refine one_ (i := 8) (N := some 20) (msk 38 9) rfl rfl (by kernel_rfl) (by decide) (fun K hK => ?_)
      refine zg Try.func57 #[.int .i64 (n : Int), .int .i64 0, .int .i64 bb] ?_
      refine (HIN.out _).mono ?_; rintro e w5 ⟨rfl, hb⟩; have HP5 := qab.mk (HT.out w5 (qae hHeld.2.2.2.out hb)); clear hb; refine ⟨_, rfl, ?_⟩; refine hK.out _ _ HP5.out (fun hHeld => ?_); clear hK K; refine zn 20 ?_
      refine zq 9 10 21 ?_
      refine zq 10 11 22 ?_
      refine zq 11 12 23 ?_
      refine zq 12 13 24 ?_
      refine zq 13 14 25 ?_
      refine zq 14 15 26 ?_
      refine zq 15 16 27 ?_
      refine zq 16 17 28 ?_
      refine zt4 17 18 29 hHeld ?_
      refine zq 18 19 30 ?_
      refine zq 19 20 31 ?_
      refine zq 20 21 32 ?_
      refine zq 21 22 33 ?_
      refine zt4 22 23 34 hHeld ?_
      refine zq 23 24 35 ?_
      refine zq 24 25 36 ?_
      refine zq 25 26 37 ?_
      refine zq 26 27 38 ?_
      refine zo 27 28 39 ?_
      refine zo 28 29 40 ?_
      refine zo 29 30 41 ?_
      refine zo 30 31 42 ?_
      refine zo 31 32 43 ?_
      refine zo 32 33 44 ?_
      refine zo 33 34 45 ?_
      refine zo 34 35 46 ?_
      refine zo 35 36 47 ?_
      refine zo 36 37 48 ?_
      refine zq 37 38 49 ?_
      refine done_ (by kernel_rfl) ?_
      clear hHeld
      have HB9 := qab.mk (qae HB.out HP5.out.2.2.2.out)
      have BK9 := qab.mk (qad BKgb.out HP5.out.2.2.2.out)
      go_wp2
      go_ret
      exact ⟨by rw [HV.out]; rfl, HB9.out⟩
     ·
      have hd : decide ((n : Int) ≤ y) = false := decide_eq_false hxy
      rw [decide_eq_true (show y < (n : Int) by omega), Bool.true_and] at HW
      have HT : qab (∀ W, Below wr.heap.size wr W → (W.cell? (ad.add k) = some (.int .i64 (n : Int)) ∧ W.cell? ⟨gb, 1, none⟩ = some (.slice (some a1) l0_1.length c0_1) ∧ W.cell? (ad.add j) = some (.int .i64 y) ∧ W.cell? ⟨(a1.add (n * 4)).block, (a1.add (n * 4)).off + 3, none⟩ = some (.int .i64 c) ∧ qab (Below wr.heap.size wr W))) := ⟨fun W h => ⟨(h.cell (World.block_lt_of_cell? wr _ T1.out)).trans T1.out, (qaa (qad BKgb.out h) 1).trans rfl, (h.cell (World.block_lt_of_cell? wr _ T2.out)).trans T2.out, (h.cell (World.block_lt_of_cell? wr _ T3.out)).trans T3.out, ⟨h⟩⟩⟩
      clear hxy
      cases hcc : decide (0 ≤ c) with
      | false =>
       rw [hcc] at HW hdc
       have HV : qab (damB l0_1 l1 = false) := ⟨range_all_false k hlt HW.out⟩
       clear hcc
       refine start_ (n := 38) (S := (fun w' => (w'.cell? (ad.add k) = some (.int .i64 (n : Int)) ∧ w'.cell? ⟨gb, 1, none⟩ = some (.slice (some a1) l0_1.length c0_1) ∧ w'.cell? (ad.add j) = some (.int .i64 y) ∧ w'.cell? ⟨(a1.add (n * 4)).block, (a1.add (n * 4)).off + 3, none⟩ = some (.int .i64 c) ∧ qab (Below wr.heap.size wr w')))) (ds := []) (msk 38 0) (by kernel_rfl) rfl rfl (HT.out _ (qav (Below.refl _ _))) (fun hHeld => ?_)
       refine zq 0 1 12 ?_
       refine zq 1 2 13 ?_
       refine zq 2 3 14 ?_
       refine zt5 3 4 15 hHeld ?_
       refine zq 4 5 16 ?_
       refine zt5 5 6 17 hHeld ?_
       refine zq 6 7 18 ?_
       refine zq 7 8 19 ?_
       refine one_ (i := 8) (N := some 20) (msk 38 9) rfl rfl (by kernel_rfl) (by decide) (fun K hK => ?_)
       refine zg Try.func57 #[.int .i64 (n : Int), .int .i64 0, .int .i64 bb] ?_
       refine (HIN.out _).mono ?_; rintro e w5 ⟨rfl, hb⟩; have HP5 := qab.mk (HT.out w5 (qae hHeld.2.2.2.2.out hb)); clear hb; refine ⟨_, rfl, ?_⟩; refine hK.out _ _ HP5.out (fun hHeld => ?_); clear hK K; refine zn 20 ?_
       refine zq 9 10 21 ?_
       refine zq 10 11 22 ?_
       refine zq 11 12 23 ?_
       refine zq 12 13 24 ?_
       refine zq 13 14 25 ?_
       refine zq 14 15 26 ?_
       refine zq 15 16 27 ?_
       refine zq 16 17 28 ?_
       refine zt5 17 18 29 hHeld ?_
       refine zq 18 19 30 ?_
       refine zq 19 20 31 ?_
       refine zq 20 21 32 ?_
       refine zq 21 22 33 ?_
       refine zt5 22 23 34 hHeld ?_
       refine zq 23 24 35 ?_
       refine zq 24 25 36 ?_
       refine zq 25 26 37 ?_
       refine zq 26 27 38 ?_
       refine zq 27 28 39 ?_
       refine zt5 28 29 40 hHeld ?_
       refine zq 29 30 41 ?_
       refine zq 30 31 42 ?_
       refine zq 31 32 43 ?_
       refine zt5 32 33 44 hHeld ?_
       refine zq 33 34 45 ?_
       refine zq 34 35 46 ?_
       refine zt5 35 36 47 hHeld ?_
       refine zq 36 37 48 ?_
       refine zq 37 38 49 ?_
       refine done_ (by kernel_rfl) ?_
       clear hHeld
       have HB9 := qab.mk (qae HB.out HP5.out.2.2.2.2.out)
       have BK9 := qab.mk (qad BKgb.out HP5.out.2.2.2.2.out)
       go_wp2
       go_ret
       exact ⟨by rw [HV.out]; rfl, HB9.out⟩
      | true =>
       rw [hcc] at HW hdc
       have HV := HW
       clear hcc
       refine start_ (n := 38) (S := (fun w' => (w'.cell? (ad.add k) = some (.int .i64 (n : Int)) ∧ w'.cell? ⟨gb, 1, none⟩ = some (.slice (some a1) l0_1.length c0_1) ∧ w'.cell? (ad.add j) = some (.int .i64 y) ∧ w'.cell? ⟨(a1.add (n * 4)).block, (a1.add (n * 4)).off + 3, none⟩ = some (.int .i64 c) ∧ qab (Below wr.heap.size wr w')))) (ds := []) (msk 38 0) (by kernel_rfl) rfl rfl (HT.out _ (qav (Below.refl _ _))) (fun hHeld => ?_)
       refine zq 0 1 12 ?_
       refine zq 1 2 13 ?_
       refine zq 2 3 14 ?_
       refine zt5 3 4 15 hHeld ?_
       refine zq 4 5 16 ?_
       refine zt5 5 6 17 hHeld ?_
       refine zq 6 7 18 ?_
       refine zq 7 8 19 ?_
       refine one_ (i := 8) (N := some 20) (msk 38 9) rfl rfl (by kernel_rfl) (by decide) (fun K hK => ?_)
       refine zg Try.func57 #[.int .i64 (n : Int), .int .i64 0, .int .i64 bb] ?_
       refine (HIN.out _).mono ?_; rintro e w5 ⟨rfl, hb⟩; have HP5 := qab.mk (HT.out w5 (qae hHeld.2.2.2.2.out hb)); clear hb; refine ⟨_, rfl, ?_⟩; refine hK.out _ _ HP5.out (fun hHeld => ?_); clear hK K; refine zn 20 ?_
       refine zq 9 10 21 ?_
       refine zq 10 11 22 ?_
       refine zq 11 12 23 ?_
       refine zq 12 13 24 ?_
       refine zq 13 14 25 ?_
       refine zq 14 15 26 ?_
       refine zq 15 16 27 ?_
       refine zq 16 17 28 ?_
       refine zt5 17 18 29 hHeld ?_
       refine zq 18 19 30 ?_
       refine zq 19 20 31 ?_
       refine zq 20 21 32 ?_
       refine zq 21 22 33 ?_
       refine zt5 22 23 34 hHeld ?_
       refine zq 23 24 35 ?_
       refine zq 24 25 36 ?_
       refine zq 25 26 37 ?_
       refine zq 26 27 38 ?_
       refine zq 27 28 39 ?_
       refine zt5 28 29 40 hHeld ?_
       refine zq 29 30 41 ?_
       refine zq 30 31 42 ?_
       refine zq 31 32 43 ?_
       refine zt5 32 33 44 hHeld ?_
       refine zq 33 34 45 ?_
       refine zq 34 35 46 ?_
       refine zt5 35 36 47 hHeld ?_
       refine zq 36 37 48 ?_
       refine zq 37 38 49 ?_
       refine done_ (by kernel_rfl) ?_
       clear hHeld
       have HB9 := qab.mk (qae HB.out HP5.out.2.2.2.2.out)
       have BK9 := qab.mk (qad BKgb.out HP5.out.2.2.2.2.out)
       go_wp2
       go_roundw
       case rel => exact ⟨k + 1, by omega, by go_num, ⟨fun i hi => by
        rcases Nat.lt_or_ge i k with h | h
        ·
         exact HN.out i h
        ·
         obtain rfl : i = k := by omega
         exact HV.out⟩, BK9, HB9⟩
       case measure => simp [intOf]; omega
  ·
   have HV : qab (damB l0_1 l1 = true) := ⟨range_all_true (fun j hj => HN.out j (by omega))⟩
   go_wp2
   go_ret
   exact ⟨by rw [HV.out]; rfl, HB.out⟩
def taliklaw07_asked.f (a0_0 : Int) (l0_1 : List (S44)) (l0_2 : List Int) (l0_3 : List Int) (l0_4 : List (S41)) (l0_5 : List (S95)) (l1 : List Int) : Option (Bool) := (talikref07_Map.f a0_0 l0_1 l0_2 l0_3 l0_4 l0_5).bind fun t191 => (if t191 = true then ((talikref07_Dam.f a0_0 l0_1 l0_2 l0_3 l0_4 l0_5 l1).bind fun t192 => (some t192)) else (some false))
theorem taliklaw07_asked.calls (a0_0 : Int) (A0_1 : Option Addr) (c0_1 : Nat) (l0_1 : List (S44)) (A0_2 : Option Addr) (c0_2 : Nat) (l0_2 : List Int) (A0_3 : Option Addr) (c0_3 : Nat) (l0_3 : List Int) (A0_4 : Option Addr) (c0_4 : Nat) (l0_4 : List (S41)) (A0_5 : Option Addr) (c0_5 : Nat) (l0_5 : List (S95)) (A1 : Option Addr) (c1 : Nat) (l1 : List Int) (r : Bool) (w : World) (hr0_1 : Kd.C k44 w A0_1 l0_1.length l0_1) (hc0_1 : l0_1.length ≤ c0_1) (hr0_2 : Kd.C (Kd.int .i64) w A0_2 l0_2.length l0_2) (hc0_2 : l0_2.length ≤ c0_2) (hr0_3 : Kd.C (Kd.int .i64) w A0_3 l0_3.length l0_3) (hc0_3 : l0_3.length ≤ c0_3) (hr0_4 : Kd.C k41 w A0_4 l0_4.length l0_4) (hc0_4 : l0_4.length ≤ c0_4) (hr0_5 : Kd.C k95 w A0_5 l0_5.length l0_5) (hc0_5 : l0_5.length ≤ c0_5) (hr1 : Kd.C (Kd.int .i64) w A1 l1.length l1) (hc1 : l1.length ≤ c1) (h : taliklaw07_asked.f a0_0 l0_1 l0_2 l0_3 l0_4 l0_5 l1 = some r) :
  Calls Try.prog 19 #[.agg #[.int .i64 a0_0, .slice A0_1 l0_1.length c0_1, .slice A0_2 l0_2.length c0_2, .slice A0_3 l0_3.length c0_3, .slice A0_4 l0_4.length c0_4, .slice A0_5 l0_5.length c0_5], .slice A1 l1.length c1] w fun e w' => e = .returned (.bool r) ∧ Below w.heap.size w w' := by
 have hu27 := Try.underlying27
 have HR0_1 := qab.mk hr0_1
 have HC0_1 := qab.mk hc0_1
 clear hr0_1 hc0_1
 have HR0_2 := qab.mk hr0_2
 have HC0_2 := qab.mk hc0_2
 clear hr0_2 hc0_2
 have HR0_3 := qab.mk hr0_3
 have HC0_3 := qab.mk hc0_3
 clear hr0_3 hc0_3
 have HR0_4 := qab.mk hr0_4
 have HC0_4 := qab.mk hc0_4
 clear hr0_4 hc0_4
 have HR0_5 := qab.mk hr0_5
 have HC0_5 := qab.mk hc0_5
 clear hr0_5 hc0_5
 have HR1 := qab.mk hr1
 have HC1 := qab.mk hc1
 clear hr1 hc1
 have HB := qab.mk (Below.refl w.heap.size w)
 have H : ((talikref07_Map.f a0_0 l0_1 l0_2 l0_3 l0_4 l0_5).bind fun t191 => (if t191 = true then ((talikref07_Dam.f a0_0 l0_1 l0_2 l0_3 l0_4 l0_5 l1).bind fun t192 => (some t192)) else (some false))) = some r := h
 clear h
 replace H := Option.bind_eq_some_iff.mp H
 obtain ⟨t191, A30, H⟩ := H
 try dsimp only at H
 have A3 := qab.mk A30
 clear A30
 by_cases c4 : t191 = true
 ·
  subst c4
  rw [if_pos rfl] at H
  replace H := Option.bind_eq_some_iff.mp H
  obtain ⟨t192, A50, H⟩ := H
  try dsimp only at H
  have A5 := qab.mk A50
  clear A50
  obtain rfl := Option.some.inj H
  go_enter Try.func19, Try.ntmps19
  go_wp2_with (first | ((with_reducible refine qam (N := 2) rfl ?_); refine ze 2 #[.int .i64 a0_0, .slice A0_1 l0_1.length c0_1, .slice A0_2 l0_2.length c0_2, .slice A0_3 l0_3.length c0_3, .slice A0_4 l0_4.length c0_4, .slice A0_5 l0_5.length c0_5] 27 ?_; intro gb190 hg w6 hbox hb; have n0_ := qab.mk (qae (zb HB.out) hb); have n1_ := qab.mk (hbox); have n2_ := qab.mk ((by rw [hg]; exact (qat (zb HB.out)) : w.heap.size ≤ gb190)); have n3_ := qab.mk ((by rw [hg]; exact (qat (zb HB.out)) : w.heap.size ≤ gb190)); clear HB; have HB := n0_; have BK190 := n1_; have GW190 := n2_; have GE190 := n3_; clear n0_ n1_ n2_ n3_; clear hb hbox hg; obtain ⟨hfz_, hcz7_0, hcz7_1, hcz7_2, hcz7_3, hcz7_4, hcz7_5⟩ := qz6 BK190.out) | ((with_reducible refine qbc (f := 27) rfl ?_); refine zl 6 Try.func27 #[.agg #[.int .i64 a0_0, .slice A0_1 l0_1.length c0_1, .slice A0_2 l0_2.length c0_2, .slice A0_3 l0_3.length c0_3, .slice A0_4 l0_4.length c0_4, .slice A0_5 l0_5.length c0_5]] ?_; (with_reducible refine (talikref07_Map.calls a0_0 _ _ l0_1 _ _ l0_2 _ _ l0_3 _ _ l0_4 _ _ l0_5 true _ ?side1 ?side2 ?side3 ?side4 ?side5 ?side6 ?side7 ?side8 ?side9 ?side10 A3.out).mono ?_); (case side1 => exact zs (Kd.qai HR0_1.out HB.out)); (case side2 => exact HC0_1.out); (case side3 => exact zs (Kd.qai HR0_2.out HB.out)); (case side4 => exact HC0_2.out); (case side5 => exact zs (Kd.qai HR0_3.out HB.out)); (case side6 => exact HC0_3.out); (case side7 => exact zs (Kd.qai HR0_4.out HB.out)); (case side8 => exact HC0_4.out); (case side9 => exact zs (Kd.qai HR0_5.out HB.out)); (case side10 => exact HC0_5.out); rintro e w8 ⟨rfl, hb⟩; refine ⟨_, rfl, ?_⟩; replace BK190 := qab.mk (zk BK190.out hb); replace HB := qab.mk (qae (by repeat (first | (with_reducible first | exact HB.out | apply qag | apply qaf | apply qah | refine qaj ?_ GE190.out) | exact HB.out)) hb); (try clear hb); (try clear hb2); (try clear hk); (try clear hi); obtain ⟨hfz_, hcz9_0, hcz9_1, hcz9_2, hcz9_3, hcz9_4, hcz9_5⟩ := qz6 BK190.out) | (go_at_call 37; (with_reducible refine (talikref07_Dam.calls a0_0 _ _ l0_1 _ _ l0_2 _ _ l0_3 _ _ l0_4 _ _ l0_5 _ _ l1 t192 _ ?side1 ?side2 ?side3 ?side4 ?side5 ?side6 ?side7 ?side8 ?side9 ?side10 ?side11 ?side12 A5.out).mono ?_); (case side1 => exact zs (Kd.qai HR0_1.out HB.out)); (case side2 => exact HC0_1.out); (case side3 => exact zs (Kd.qai HR0_2.out HB.out)); (case side4 => exact HC0_2.out); (case side5 => exact zs (Kd.qai HR0_3.out HB.out)); (case side6 => exact HC0_3.out); (case side7 => exact zs (Kd.qai HR0_4.out HB.out)); (case side8 => exact HC0_4.out); (case side9 => exact zs (Kd.qai HR0_5.out HB.out)); (case side10 => exact HC0_5.out); (case side11 => exact zs (Kd.qai HR1.out HB.out)); (case side12 => exact HC1.out); rintro e w10 ⟨rfl, hb⟩; replace BK190 := qab.mk (zk BK190.out hb); replace HB := qab.mk (qae (by repeat (first | (with_reducible first | exact HB.out | apply qag | apply qaf | apply qah | refine qaj ?_ GE190.out) | exact HB.out)) hb); (try clear hb); (try clear hb2); (try clear hk); (try clear hi)))
  go_ret
  exact ⟨by first | rfl | (simp [qaw, qax] <;> rfl) | (simp [*, qaw, qax] <;> rfl), by repeat (first | (with_reducible first | exact HB.out | apply qag | apply qaf | apply qah | refine qaj ?_ GE190.out) | exact HB.out)⟩
 ·
  replace c4 := Bool.eq_false_iff.mpr c4
  subst c4
  rw [if_neg (show ¬ (false = true) by decide)] at H
  obtain rfl := Option.some.inj H
  go_enter Try.func19, Try.ntmps19
  go_wp2_with (first | ((with_reducible refine qam (N := 2) rfl ?_); refine ze 2 #[.int .i64 a0_0, .slice A0_1 l0_1.length c0_1, .slice A0_2 l0_2.length c0_2, .slice A0_3 l0_3.length c0_3, .slice A0_4 l0_4.length c0_4, .slice A0_5 l0_5.length c0_5] 27 ?_; intro gb190 hg w11 hbox hb; have n0_ := qab.mk (qae (zb HB.out) hb); have n1_ := qab.mk (hbox); have n2_ := qab.mk ((by rw [hg]; exact (qat (zb HB.out)) : w.heap.size ≤ gb190)); have n3_ := qab.mk ((by rw [hg]; exact (qat (zb HB.out)) : w.heap.size ≤ gb190)); clear HB; have HB := n0_; have BK190 := n1_; have GW190 := n2_; have GE190 := n3_; clear n0_ n1_ n2_ n3_; clear hb hbox hg; obtain ⟨hfz_, hcz12_0, hcz12_1, hcz12_2, hcz12_3, hcz12_4, hcz12_5⟩ := qz6 BK190.out) | ((with_reducible refine qbc (f := 27) rfl ?_); refine zl 6 Try.func27 #[.agg #[.int .i64 a0_0, .slice A0_1 l0_1.length c0_1, .slice A0_2 l0_2.length c0_2, .slice A0_3 l0_3.length c0_3, .slice A0_4 l0_4.length c0_4, .slice A0_5 l0_5.length c0_5]] ?_; (with_reducible refine (talikref07_Map.calls a0_0 _ _ l0_1 _ _ l0_2 _ _ l0_3 _ _ l0_4 _ _ l0_5 false _ ?side1 ?side2 ?side3 ?side4 ?side5 ?side6 ?side7 ?side8 ?side9 ?side10 A3.out).mono ?_); (case side1 => exact zs (Kd.qai HR0_1.out HB.out)); (case side2 => exact HC0_1.out); (case side3 => exact zs (Kd.qai HR0_2.out HB.out)); (case side4 => exact HC0_2.out); (case side5 => exact zs (Kd.qai HR0_3.out HB.out)); (case side6 => exact HC0_3.out); (case side7 => exact zs (Kd.qai HR0_4.out HB.out)); (case side8 => exact HC0_4.out); (case side9 => exact zs (Kd.qai HR0_5.out HB.out)); (case side10 => exact HC0_5.out); rintro e w13 ⟨rfl, hb⟩; refine ⟨_, rfl, ?_⟩; replace BK190 := qab.mk (zk BK190.out hb); replace HB := qab.mk (qae (by repeat (first | (with_reducible first | exact HB.out | apply qag | apply qaf | apply qah | refine qaj ?_ GE190.out) | exact HB.out)) hb); (try clear hb); (try clear hb2); (try clear hk); (try clear hi)))
  go_ret
  exact ⟨by first | rfl | (simp [qaw, qax] <;> rfl) | (simp [*, qaw, qax] <;> rfl), by repeat (first | (with_reducible first | exact HB.out | apply qag | apply qaf | apply qah | refine qaj ?_ GE190.out) | exact HB.out)⟩
def talikref07_Has.l0 : Nat → List Int → Int → Int → Option (Bool)
 | 0, _, _, _ => none
 | k + 1, x0, x1, x5 => if x5 < (x0.length : Int) then (if 0 ≤ x5 then (if (rd x0 x5) = x1 then (some true) else (talikref07_Has.l0 k x0 x1 (wrap64 (x5 + 1)))) else (none)) else (some false)
def talikref07_Has.f (k : Nat) (l0 : List Int) (a1 : Int) : Option (Bool) := talikref07_Has.l0 k l0 a1 0
theorem talikref07_Has.calls (k : Nat) (A0 : Option Addr) (c0 : Nat) (l0 : List Int) (a1 : Int) (r : Bool) (w : World) (hr0 : Kd.C (Kd.int .i64) w A0 l0.length l0) (hc0 : l0.length ≤ c0) (h : talikref07_Has.f k l0 a1 = some r) :
  Calls Try.prog 25 #[.slice A0 l0.length c0, .int .i64 a1] w fun e w' => e = .returned (.bool r) ∧ Drawn0 w w' := by
 have HR0 := qab.mk hr0
 have HC0 := qab.mk hc0
 clear hr0 hc0
 have H : (talikref07_Has.l0 k l0 a1 0) = some r := h
 clear h
 have H' := qab.mk H
 clear H
 go_enter Try.func25, Try.ntmps25
 go_wp2
 go_loopg [5] k (fun kq v5 w' => ∃ (x5_1 : Int), v5 = .int .i64 x5_1 ∧ qab (talikref07_Has.l0 kq l0 a1 x5_1 = some r) ∧ qab (kq ≤ k) ∧ Drawn0 w w')
 case atStart => exact ⟨(0), (by first | rfl | (simp; done) | (simp [*]; done)), H', ⟨Nat.le_refl _⟩, by repeat (first | exact Drawn0.refl _ | apply Drawn0.step)⟩
 case round =>
  clear H'
  try clear c2
  try clear p2
  obtain ⟨x5_1, rfl, HA, HK1, ⟨m1, rfl⟩⟩ := hrel
  cases gk with
  | zero => exact absurd HA.out (by simp [talikref07_Has.l0])
  | succ k1 =>
   have H := HA.out
   clear HA
   simp only [talikref07_Has.l0] at H
   by_cases c3 : x5_1 < (l0.length : Int)
   ·
    rw [if_pos c3] at H
    have c3b0 : decide (x5_1 < (l0.length : Int)) = true := decide_eq_true c3
    clear c3
    by_cases c4 : 0 ≤ x5_1
    ·
     rw [if_pos c4] at H
     have c4b0 : decide (0 ≤ x5_1) = true := decide_eq_true c4
     clear c4
     by_cases c5 : (rd l0 x5_1) = a1
     ·
      rw [if_pos c5] at H
      have c5b0 : ((rd l0 x5_1) == a1) = true := beq_iff_eq.mpr c5
      have c5b1 : ((rd l0 x5_1) != a1) = false := bne_eq_false_iff_eq.mpr c5
      clear c5
      obtain rfl := Option.some.inj H
      have p198 : 0 ≤ (x5_1 : Int) := of_decide_eq_true (by first | (with_reducible assumption) | assumption)
      have q198 : x5_1 < (l0.length : Int) := of_decide_eq_true (by first | (with_reducible assumption) | assumption)
      obtain ⟨ad198, e198, hx198_0⟩ := Kd.at_int HR0.out x5_1 p198 q198
      cases e198
      replace p198 := eq_true p198
      replace q198 := eq_true q198
      go_wp2
      go_ret
      exact ⟨by first | rfl | (simp; done) | (simp [*]; done), by repeat (first | exact Drawn0.refl _ | apply Drawn0.step)⟩
     ·
      rw [if_neg c5] at H
      have c5b0 : ((rd l0 x5_1) == a1) = false := beq_eq_false_iff_ne.mpr c5
      have c5b1 : ((rd l0 x5_1) != a1) = true := bne_iff_ne.mpr c5
      have H' := qab.mk H
      clear H
      have p198 : 0 ≤ (x5_1 : Int) := of_decide_eq_true (by first | (with_reducible assumption) | assumption)
      have q198 : x5_1 < (l0.length : Int) := of_decide_eq_true (by first | (with_reducible assumption) | assumption)
      obtain ⟨ad198, e198, hx198_0⟩ := Kd.at_int HR0.out x5_1 p198 q198
      cases e198
      replace p198 := eq_true p198
      replace q198 := eq_true q198
      go_wp2
      go_roundg k1
      case measure => have := HK1.out; omega
      case rel => exact ⟨(wrap64 (x5_1 + 1)), (by first | rfl | (simp; done) | (simp [*]; done)), H', ⟨by have := HK1.out; omega⟩, by repeat (first | exact Drawn0.refl _ | apply Drawn0.step)⟩
    ·
     rw [if_neg c4] at H
     exact absurd H (by simp)
   ·
    rw [if_neg c3] at H
    have c3b0 : decide (x5_1 < (l0.length : Int)) = false := decide_eq_false c3
    clear c3
    obtain rfl := Option.some.inj H
    go_wp2
    go_ret
    exact ⟨by first | rfl | (simp; done) | (simp [*]; done), by repeat (first | exact Drawn0.refl _ | apply Drawn0.step)⟩
def rfInit (ws : List Int) (N : Int) (k : Nat) : List Int := (List.range k).map fun (q : Nat) => if ws.contains (q : Int) = true then 0 else N
def rfStep (l1 : List S44) (dyk : List Int) (th y : Int) (o : List Int) (i : Nat) : List Int :=
 if dyk.contains (i : Int) = true then o else if (qar l1 i).f2 ≤ th then if rd o (qar l1 i).f0 ≤ y then if y < rd o (qar l1 i).f1 then o.set (qar l1 i).f1.toNat y else o else o else o
def rfEdges (l1 : List S44) (dyk : List Int) (th y : Int) (o : List Int) (i : Nat) : List Int := (List.range i).foldl (rfStep l1 dyk th y) o
def rfAgain (l1 : List S44) (dyk : List Int) (th y : Int) (o : List Int) : Nat → List Int
 | 0 => o
 | m + 1 => rfEdges l1 dyk th y (rfAgain l1 dyk th y o m) l1.length
def rfTo (P : Nat) (l1 : List S44) (ws dyk ths : List Int) : Nat → List Int
 | 0 => rfInit ws ths.length P
 | y + 1 => rfAgain l1 dyk (rd ths y) y (rfTo P l1 ws dyk ths y) P
def rfV (P : Nat) (l1 : List S44) (ws dyk ths : List Int) : List Int := rfTo P l1 ws dyk ths ths.length
theorem rfInit_succ (ws : List Int) (N : Int) (k : Nat) : rfInit ws N (k + 1) = rfInit ws N k ++ [if ws.contains (k : Int) = true then 0 else N] := by simp [rfInit, List.range_succ]
theorem rfInit_length (ws : List Int) (N : Int) (k : Nat) : (rfInit ws N k).length = k := by simp [rfInit]
theorem rfEdges_succ (l1 : List S44) (dyk : List Int) (th y : Int) (o : List Int) (i : Nat) : rfEdges l1 dyk th y o (i + 1) = rfStep l1 dyk th y (rfEdges l1 dyk th y o i) i := by simp [rfEdges, List.range_succ]
theorem rfStep_length (l1 : List S44) (dyk : List Int) (th y : Int) (o : List Int) (i : Nat) : (rfStep l1 dyk th y o i).length = o.length := by
 unfold rfStep
 split
 ·
  rfl
 ·
  split
  ·
   split
   ·
    split <;> simp
   ·
    rfl
  ·
   rfl
theorem rfEdges_length (l1 : List S44) (dyk : List Int) (th y : Int) (o : List Int) : ∀ i, (rfEdges l1 dyk th y o i).length = o.length
 | 0 => rfl
 | i + 1 => by rw [rfEdges_succ, rfStep_length, rfEdges_length l1 dyk th y o i]
theorem rfAgain_length (l1 : List S44) (dyk : List Int) (th y : Int) (o : List Int) : ∀ m, (rfAgain l1 dyk th y o m).length = o.length
 | 0 => rfl
 | m + 1 => by rw [rfAgain, rfEdges_length, rfAgain_length l1 dyk th y o m]
theorem rfTo_length (P : Nat) (l1 : List S44) (ws dyk ths : List Int) : ∀ y, (rfTo P l1 ws dyk ths y).length = P
 | 0 => by rw [rfTo, rfInit_length]
 | y + 1 => by rw [rfTo, rfAgain_length, rfTo_length P l1 ws dyk ths y]
theorem ref_Has_eq (l : List Int) (n : Int) (hl : l.length ≤ 9223372036854775807) : talikref07_Has.f (l.length + 1) l n = some (l.contains n) := by
 have go : ∀ (d i k : Nat), i + d = l.length → d < k → (∀ j, j < i → l.getD j 0 ≠ n) → talikref07_Has.l0 k l n (i : Int) = some (l.contains n) := by
  intro d
  induction d with
  | zero =>
   intro i k hd hk hp
   obtain ⟨k, rfl⟩ : ∃ m, k = m + 1 := ⟨k - 1, by omega⟩
   simp only [talikref07_Has.l0]
   rw [if_neg (by omega)]
   have : l.contains n = false := by
    rw [← Bool.not_eq_true]
    intro h
    have hm : n ∈ l := by simpa using h
    obtain ⟨j, hj, e⟩ := List.mem_iff_getElem.1 hm
    exact hp j (by omega) (by rw [List.getD_eq_getElem?_getD, List.getElem?_eq_getElem hj]; exact e)
   rw [this]
  | succ d ih =>
   intro i k hd hk hp
   obtain ⟨k, rfl⟩ : ∃ m, k = m + 1 := ⟨k - 1, by omega⟩
   simp only [talikref07_Has.l0]
   have e1 : rd l (i : Int) = l.getD i 0 := by simp [rd]
   rw [if_pos (by omega), if_pos (by omega), e1]
   by_cases h : l.getD i 0 = n
   ·
    rw [if_pos h]
    have hi : i < l.length := by omega
    have : l.contains n = true := by
     rw [List.getD_eq_getElem?_getD, List.getElem?_eq_getElem hi] at h
     simpa using List.mem_iff_getElem.2 ⟨i, hi, h⟩
    rw [this]
   ·
    rw [if_neg h, show wrap64 ((i : Int) + 1) = ((i + 1 : Nat) : Int) from by unfold wrap64; omega]
    refine ih (i + 1) k (by omega) (by omega) (fun j hj => ?_)
    rcases Nat.lt_or_ge j i with h2 | h2
    ·
     exact hp j h2
    ·
     obtain rfl : j = i := by omega
     exact h
 exact go l.length 0 _ (by omega) (by omega) (fun j hj => by omega)
theorem rhas_calls (A : Option Addr) (c : Nat) (l : List Int) (n : Int) (W : World) (hr : Kd.C (Kd.int .i64) W A l.length l) (hc : l.length ≤ c) : Calls Try.prog 25 #[.slice A l.length c, .int .i64 n] W fun e w' => e = .returned (.bool (l.contains n)) ∧ Below W.heap.size W w' :=
 (talikref07_Has.calls (l.length + 1) A c l n _ W hr hc (ref_Has_eq l n (Kd.C_max hr))).mono fun e w' ⟨h1, h2⟩ => ⟨h1, h2.below⟩
structure RF (w : World) (gb : Nat) (mcs : Array Value) (v : Value) (o : List Int) (W : World) : Prop where
 hb : Below w.heap.size w W
 b : W.heap[gb]? = some (.cells mcs 27 (0, 0))
 o : Kd.R (Kd.int .i64) 3 W w.heap.size (fun _ => True) v o
section
variable {w W W' : World} {gb : Nat} {mcs : Array Value} {v v' : Value} {o o' : List Int}
theorem RF.below (h : RF w gb mcs v o W) (hb : Below W.heap.size W W') : RF w gb mcs v o W' := ⟨qae h.hb hb, qad h.b hb, Kd.qak h.o hb⟩
theorem RF.app (h : RF w gb mcs v o W) (ho : Kd.R (Kd.int .i64) 3 W' w.heap.size (fun _ => True) v' o') (hB : Below w.heap.size w W') (hg : W.grownBy W' v.ownBlock) : RF w gb mcs v' o' W' := ⟨hB, blk_grown h.b hg (Kd.R_ne h.o h.b (by decide)), ho⟩
theorem RF.put {go n c : Nat} (h : RF w gb mcs (.slice (some ⟨go, 0, none⟩) n c) o W) (hn : 0 < n) (i : Nat) (x : Int) : RF w gb mcs (.slice (some ⟨go, 0, none⟩) n c) (o.set i x) (W.setCell ⟨go, i, none⟩ (.int .i64 x)) := by
 obtain ⟨h1, cs, h2⟩ := R_blk h.o hn
 exact ⟨qaj h.hb h1, blk_far (p := ⟨go, i, none⟩) h.b (blk_ne h.b h2 (by decide)) _, Kd.R_putn h.o (i : Int) x⟩
end
end Go.Proofs.Ytafkanmioinbiaa.SA
namespace Go.Proofs.Ytafkanmioinbiaa.SA
open Go.RowKit Go.Shelf Go.Proofs.YtafkanmioinbiaaW.PrintWords Go.Proofs.YtafkanmioinbiaaW.PrintLast Go.Proofs.YtafkanmioinbiaaW.PrintMore
attribute [local go_sem] max2_int min2_int max_two min_two qay qaz max_four min_four
def opE (l1 : List S44) (dk : Nat → Bool) (ths : List Int) (y i : Nat) : Prop := i < l1.length ∧ dk i = false ∧ (qar l1 i).f2 ≤ rd ths y
inductive Fl (l1 : List S44) (ws : List Int) (dk : Nat → Bool) (ths : List Int) : Nat → Int → Prop
 | waste {y : Nat} {p : Int} : p ∈ ws → Fl l1 ws dk ths y p
 | later {y : Nat} {p : Int} : Fl l1 ws dk ths y p → Fl l1 ws dk ths (y + 1) p
 | edge {y i : Nat} : opE l1 dk ths y i → Fl l1 ws dk ths y (qar l1 i).f0 → Fl l1 ws dk ths y (qar l1 i).f1
def InP (l1 : List S44) (P : Nat) : Prop := ∀ i : Nat, i < l1.length → (0 ≤ (qar l1 i).f0 ∧ (qar l1 i).f0 < P) ∧ (0 ≤ (qar l1 i).f1 ∧ (qar l1 i).f1 < P)
structure IsF (l1 : List S44) (ws : List Int) (dk : Nat → Bool) (ths : List Int) (N P b k : Nat) (o : List Int) : Prop where
 len : o.length = P
 rng : ∀ p : Int, 0 ≤ p → p < P → 0 ≤ rd o p ∧ (rd o p < b ∨ rd o p = N)
 iff : ∀ p : Int, 0 ≤ p → p < P → ∀ y : Nat, y < k → (rd o p ≤ y ↔ Fl l1 ws dk ths y p)
theorem rd_set (o : List Int) (n : Nat) (y x : Int) (hx : 0 ≤ x) (hn : n < o.length) : rd (o.set n y) x = if x = n then y else rd o x := by
 unfold rd
 rw [List.getD_eq_getElem?_getD, List.getElem?_set]
 by_cases h : x = n
 ·
  rw [if_pos (by omega), if_pos hn, if_pos h]
  rfl
 ·
  rw [if_neg (by omega), if_neg h, List.getD_eq_getElem?_getD]
section
variable {l1 : List S44} {ws : List Int} {dk : Nat → Bool} {ths : List Int} {N P b k : Nat} {o o' : List Int}
theorem IsF.uniq (h : IsF l1 ws dk ths N P N N o) (h' : IsF l1 ws dk ths N P N N o') : o = o' := by
 have key : ∀ {o o' : List Int}, IsF l1 ws dk ths N P N N o → IsF l1 ws dk ths N P N N o' → ∀ p : Int, 0 ≤ p → p < P → rd o' p ≤ rd o p := by
  intro o o' h h' p h0 h1
  obtain ⟨r1, r2⟩ := h.rng p h0 h1
  obtain ⟨s1, s2⟩ := h'.rng p h0 h1
  rcases r2 with r2 | r2
  ·
   have hy : (rd o p).toNat < N := by omega
   have hf := (h.iff p h0 h1 (rd o p).toNat hy).1 (by omega)
   have := (h'.iff p h0 h1 (rd o p).toNat hy).2 hf
   omega
  ·
   omega
 refine List.ext_getElem (h.len.trans h'.len.symm) (fun i hi hi' => ?_)
 have e : ∀ (l : List Int) (hl : i < l.length), rd l (i : Int) = l[i] := fun l hl => by simp [rd, hl]
 have hiP : (i : Int) < P := by have := h.len; omega
 have h1 := key h h' i (by omega) hiP
 have h2 := key h' h i (by omega) hiP
 rw [e o hi, e o' hi'] at h1 h2
 omega
theorem IsF.step (hN : k < N) (h : IsF l1 ws dk ths N P b k o) (hb : b ≤ k + 1) (hE : InP l1 P) (hw : ∀ p ∈ ws, 0 ≤ p ∧ p < P) (h1 : o'.length = P)
  (h2 : ∀ p : Int, 0 ≤ p → p < P → rd o' p = rd o p ∨ (rd o p > k ∧ rd o' p = k)) (h3 : ∀ p : Int, 0 ≤ p → p < P → rd o' p ≤ k → Fl l1 ws dk ths k p)
  (h4 : ∀ p ∈ ws, rd o' p ≤ k) (h5 : ∀ i, opE l1 dk ths k i → rd o' (qar l1 i).f0 ≤ k → rd o' (qar l1 i).f1 ≤ k) : IsF l1 ws dk ths N P (k + 1) (k + 1) o' := by
 refine ⟨h1, fun p hp0 hp1 => ?_, fun p hp0 hp1 y hy => ?_⟩
 ·
  have := h.rng p hp0 hp1
  rcases h2 p hp0 hp1 with e | ⟨_, e⟩ <;> rw [e] <;> omega
 ·
  rcases Nat.lt_or_ge y k with hlt | hge
  ·
   rw [← h.iff p hp0 hp1 y hlt]
   rcases h2 p hp0 hp1 with e | ⟨e1, e2⟩
   ·
    rw [e]
   ·
    rw [e2]; constructor <;> intro _ <;> omega
  ·
   obtain rfl : y = k := by omega
   refine ⟨h3 p hp0 hp1, fun hf => ?_⟩
   have go : ∀ z q, Fl l1 ws dk ths z q → z = y → 0 ≤ q ∧ q < P → rd o' q ≤ y := by
    intro z q hq
    induction hq with
    | waste hm => exact fun _ _ => h4 _ hm
    | @later z q hq ih =>
     intro e hqP
     have := (h.iff q hqP.1 hqP.2 z (by omega)).2 hq
     rcases h2 q hqP.1 hqP.2 with e1 | ⟨e1, _⟩ <;> omega
    | @edge z i ho hq ih =>
     intro e _
     subst e
     exact h5 i ho (ih rfl (hE i ho.1).1)
   exact go y p hf rfl ⟨hp0, hp1⟩
theorem rfStep_cases (th y : Int) (dyk : List Int) (o : List Int) (i : Nat) (hE : (0 ≤ (qar l1 i).f1 ∧ (qar l1 i).f1 < o.length)) :
  (rfStep l1 dyk th y o i = o ∧ (dyk.contains (i : Int) = false → (qar l1 i).f2 ≤ th → rd o (qar l1 i).f0 ≤ y → rd o (qar l1 i).f1 ≤ y)) ∨
  (rfStep l1 dyk th y o i = o.set (qar l1 i).f1.toNat y ∧ dyk.contains (i : Int) = false ∧ (qar l1 i).f2 ≤ th ∧ rd o (qar l1 i).f0 ≤ y ∧ y < rd o (qar l1 i).f1) := by
 unfold rfStep
 by_cases c0 : dyk.contains (i : Int) = true
 ·
  rw [if_pos c0]
  exact .inl ⟨rfl, fun h => by rw [h] at c0; cases c0⟩
 ·
  rw [if_neg c0]
  by_cases c1 : (qar l1 i).f2 ≤ th
  ·
   rw [if_pos c1]
   by_cases c2 : rd o (qar l1 i).f0 ≤ y
   ·
    rw [if_pos c2]
    by_cases c3 : y < rd o (qar l1 i).f1
    ·
     rw [if_pos c3]
     exact .inr ⟨rfl, by simpa using c0, c1, c2, c3⟩
    ·
     rw [if_neg c3]
     exact .inl ⟨rfl, fun _ _ _ => by omega⟩
   ·
    rw [if_neg c2]
    exact .inl ⟨rfl, fun _ _ h => absurd h c2⟩
  ·
   rw [if_neg c1]
   exact .inl ⟨rfl, fun _ h => absurd h c1⟩
structure Mid (l1 : List S44) (ws : List Int) (dk : Nat → Bool) (ths : List Int) (P y : Nat) (o o' : List Int) : Prop where
 len : o'.length = P
 chg : ∀ p : Int, 0 ≤ p → p < P → rd o' p = rd o p ∨ (rd o p > y ∧ rd o' p = y)
 snd : ∀ p : Int, 0 ≤ p → p < P → rd o' p ≤ y → Fl l1 ws dk ths y p
theorem Mid.put {y : Nat} (h : Mid l1 ws dk ths P y o o') (x : Int) (hx : 0 ≤ x ∧ x < P) (hgt : (y : Int) < rd o' x) (hf : Fl l1 ws dk ths y x) : Mid l1 ws dk ths P y o (o'.set x.toNat y) := by
 have hl : x.toNat < o'.length := by have := h.len; omega
 refine ⟨by rw [List.length_set]; exact h.len, fun p h0 h1 => ?_, fun p h0 h1 => ?_⟩
 ·
  rw [rd_set _ _ _ _ h0 hl]
  by_cases e : p = (x.toNat : Int)
  ·
   rw [if_pos e]
   obtain rfl : p = x := by omega
   refine .inr ⟨?_, rfl⟩
   rcases h.chg p h0 h1 with e | ⟨e, _⟩ <;> omega
  ·
   rw [if_neg e]
   exact h.chg p h0 h1
 ·
  rw [rd_set _ _ _ _ h0 hl]
  by_cases e : p = (x.toNat : Int)
  ·
   rw [if_pos e]
   obtain rfl : p = x := by omega
   exact fun _ => hf
  ·
   rw [if_neg e]
   exact h.snd p h0 h1
theorem Mid.edges {y : Nat} {dyk : List Int} (hE : InP l1 P) (h : Mid l1 ws (fun i => dyk.contains (i : Int)) ths P y o o') : ∀ n, n ≤ l1.length → Mid l1 ws (fun i => dyk.contains (i : Int)) ths P y o (rfEdges l1 dyk (rd ths y) y o' n) ∧
  cntN y (rfEdges l1 dyk (rd ths y) y o' n) ≤ cntN y o' ∧ (cntN y (rfEdges l1 dyk (rd ths y) y o' n) = cntN y o' → rfEdges l1 dyk (rd ths y) y o' n = o' ∧ ∀ i, i < n → dyk.contains (i : Int) = false → (qar l1 i).f2 ≤ rd ths y → rd o' (qar l1 i).f0 ≤ y → rd o' (qar l1 i).f1 ≤ y)
 | 0, _ => ⟨h, Nat.le_refl _, fun _ => ⟨rfl, fun i hi => by omega⟩⟩
 | n + 1, hn => by
  obtain ⟨h1, h2, h3⟩ := Mid.edges hE h n (by omega)
  rw [rfEdges_succ]
  have hEn := hE n (by omega)
  have hl := h1.len
  rcases rfStep_cases (l1 := l1) (rd ths y) (y : Int) dyk (rfEdges l1 dyk (rd ths y) y o' n) n (by omega) with ⟨e, hc⟩ | ⟨e, d0, d1, d2, d3⟩
  ·
   rw [e]
   refine ⟨h1, h2, fun he => ?_⟩
   obtain ⟨e1, e2⟩ := h3 he
   refine ⟨e1, fun i hi => ?_⟩
   rcases Nat.lt_or_ge i n with hlt | hge
   ·
    exact e2 i hlt
   ·
    obtain rfl : i = n := by omega
    rw [e1] at hc
    exact hc
  ·
   rw [e]
   have hlt : (qar l1 n).f1.toNat < (rfEdges l1 dyk (rd ths y) y o' n).length := by omega
   have hcn := cntN_set (y : Int) (rfEdges l1 dyk (rd ths y) y o' n) (qar l1 n).f1.toNat hlt d3
   refine ⟨h1.put _ hEn.2 d3 (.edge ⟨by omega, d0, d1⟩ (h1.snd _ hEn.1.1 hEn.1.2 d2)), by omega, fun he => by omega⟩
theorem Mid.again {y : Nat} {dyk : List Int} (hE : InP l1 P) (h : Mid l1 ws (fun i => dyk.contains (i : Int)) ths P y o o) : ∀ m, Mid l1 ws (fun i => dyk.contains (i : Int)) ths P y o (rfAgain l1 dyk (rd ths y) y o m) ∧
  (cntN y (rfAgain l1 dyk (rd ths y) y o m) + m ≤ cntN y o ∨ ∀ i, opE l1 (fun i => dyk.contains (i : Int)) ths y i → rd (rfAgain l1 dyk (rd ths y) y o m) (qar l1 i).f0 ≤ y → rd (rfAgain l1 dyk (rd ths y) y o m) (qar l1 i).f1 ≤ y)
 | 0 => ⟨h, .inl (Nat.le_refl _)⟩
 | m + 1 => by
  obtain ⟨h1, h2⟩ := Mid.again hE h m
  rw [rfAgain]
  obtain ⟨g1, g2, g3⟩ := h1.edges hE l1.length (Nat.le_refl _)
  refine ⟨g1, ?_⟩
  rcases Nat.lt_or_ge (cntN y (rfEdges l1 dyk (rd ths y) y (rfAgain l1 dyk (rd ths y) y o m) l1.length)) (cntN y (rfAgain l1 dyk (rd ths y) y o m)) with hlt | hge
  ·
   rcases h2 with h2 | h2
   ·
    exact .inl (by omega)
   ·
    exact absurd hlt (by
     have hfix : ∀ n, n ≤ l1.length → rfEdges l1 dyk (rd ths y) y (rfAgain l1 dyk (rd ths y) y o m) n = rfAgain l1 dyk (rd ths y) y o m := by
      intro n
      induction n with
      | zero => intro _; rfl
      | succ n ih =>
       intro hn
       rw [rfEdges_succ, ih (by omega)]
       have hEn := hE n (by omega)
       have hl := h1.len
       rcases rfStep_cases (l1 := l1) (rd ths y) (y : Int) dyk (rfAgain l1 dyk (rd ths y) y o m) n (by omega) with ⟨e, _⟩ | ⟨_, d0, d1, d2, d3⟩
       ·
        exact e
       ·
        have := h2 n ⟨by omega, d0, d1⟩ d2
        omega
     rw [hfix _ (Nat.le_refl _)]
     exact Nat.lt_irrefl _)
  ·
   obtain ⟨e1, e2⟩ := g3 (by omega)
   right
   rw [e1]
   exact fun i hi => e2 i hi.1 hi.2.1 hi.2.2
theorem cntN_le (y : Int) (o : List Int) : cntN y o ≤ o.length := List.length_filter_le _ _
theorem cntN_zero {y : Int} {o : List Int} (h : cntN y o = 0) (p : Int) (h0 : 0 ≤ p) (h1 : p < o.length) : rd o p ≤ y := by
 unfold cntN at h
 have h2 := List.length_eq_zero_iff.1 h
 rw [List.filter_eq_nil_iff] at h2
 have hl : p.toNat < o.length := by omega
 have := h2 o[p.toNat] (List.getElem_mem hl)
 have e : rd o p = o[p.toNat] := by simp [rd, hl]
 rw [e]
 simpa using this
theorem rf_isF (hE : InP l1 P) {dyk : List Int} (hw : ∀ p ∈ ws, 0 ≤ p ∧ p < P) : ∀ k, k ≤ ths.length → IsF l1 ws (fun i => dyk.contains (i : Int)) ths ths.length P (max k 1) k (rfTo P l1 ws dyk ths k) ∧ ∀ p ∈ ws, rd (rfTo P l1 ws dyk ths k) p = 0
 | 0, _ => by
  have e : ∀ p : Int, 0 ≤ p → p < P → rd (rfTo P l1 ws dyk ths 0) p = if ws.contains p = true then 0 else (ths.length : Int) := fun p h0 h1 => by
   unfold rfTo rfInit rd
   have hl : p.toNat < P := by omega
   simp [hl, show ((p.toNat : Nat) : Int) = p from by omega]
  refine ⟨⟨rfTo_length _ _ _ _ _ _, fun p h0 h1 => ?_, fun p _ _ y hy => by omega⟩, fun p hp => ?_⟩
  ·
   rw [e p h0 h1]
   split <;> omega
  ·
   rw [e p (hw p hp).1 (hw p hp).2, if_pos (by simpa using hp)]
 | k + 1, hk => by
  obtain ⟨h, hz⟩ := rf_isF hE hw k (by omega)
  have hmid : Mid l1 ws (fun i => dyk.contains (i : Int)) ths P k (rfTo P l1 ws dyk ths k) (rfTo P l1 ws dyk ths k) := by
   refine ⟨h.len, fun _ _ _ => .inl rfl, fun p h0 h1 hle => ?_⟩
   obtain ⟨r1, r2⟩ := h.rng p h0 h1
   rcases Nat.eq_zero_or_pos k with e | e
   ·
    subst e
    by_cases hp : p ∈ ws
    ·
     exact .waste hp
    ·
     exfalso
     have : rd (rfTo P l1 ws dyk ths 0) p = ths.length := by
      unfold rfTo rfInit rd
      have hl : p.toNat < P := by omega
      have hp' : ws.contains p = false := by simpa using hp
      simp [hl, show ((p.toNat : Nat) : Int) = p from by omega]
      exact fun hh => absurd hh hp
     omega
   ·
    obtain ⟨k, rfl⟩ : ∃ m, k = m + 1 := ⟨k - 1, by omega⟩
    refine .later ((h.iff p h0 h1 k (by omega)).1 (by omega))
  obtain ⟨g1, g2⟩ := hmid.again hE P
  have hst := h.step (o' := rfTo P l1 ws dyk ths (k + 1)) (by omega) (by omega) hE hw (rfTo_length _ _ _ _ _ _) g1.chg g1.snd
  have hz' : ∀ p ∈ ws, rd (rfTo P l1 ws dyk ths (k + 1)) p = 0 := fun p hp => by
   rcases g1.chg p (hw p hp).1 (hw p hp).2 with e | ⟨e, _⟩
   ·
    exact e.trans (hz p hp)
   ·
    have := hz p hp
    omega
  refine ⟨?_, hz'⟩
  rw [show max (k + 1) 1 = k + 1 from by omega]
  refine hst (fun p hp => by rw [hz' p hp]; omega) (fun i hi hle => ?_)
  rcases g2 with g2 | g2
  ·
   have hc := cntN_le (k : Int) (rfTo P l1 ws dyk ths k)
   rw [rfTo_length] at hc
   have h0 : cntN (k : Int) (rfTo P l1 ws dyk ths (k + 1)) = 0 := by change cntN (k : Int) (rfAgain l1 dyk (rd ths k) k (rfTo P l1 ws dyk ths k) P) = 0; omega
   exact cntN_zero h0 _ (hE i hi.1).2.1 (by rw [rfTo_length]; exact (hE i hi.1).2.2)
  ·
   exact g2 i hi hle
theorem rfV_isF (hE : InP l1 P) {dyk : List Int} (hw : ∀ p ∈ ws, 0 ≤ p ∧ p < P) (hN : 1 ≤ ths.length) : IsF l1 ws (fun i => dyk.contains (i : Int)) ths ths.length P ths.length ths.length (rfV P l1 ws dyk ths) := by
 have h := (rf_isF (dyk := dyk) hE hw ths.length (Nat.le_refl _)).1
 rwa [Nat.max_eq_left hN] at h
end
theorem openL_mem (d : Int) (es : List S44) (ths : List Int) (y i : Nat) : i ∈ openL d es (rd ths y) es.length ↔ opE es (fun i => dykeV d (i : Int)) ths y i := by
 unfold openL opE openB
 simp only [List.mem_filter, List.mem_range, Bool.and_eq_true, Bool.not_eq_true', decide_eq_true_eq, ge_iff_le]
section
variable {l1 : List S44} {ws : List Int} {dk : Nat → Bool} {ths : List Int} {N P : Nat} {o : List Int}
theorem seed_at (y : Int) (ws o : List Int) : ∀ n, n ≤ o.length → (∀ p : Int, 0 ≤ p → p < o.length → rd (seedTo y ws o n).1 p = if p < n ∧ (rd o p < y ∨ ws.contains p = true) then min (rd o p) y else rd o p) ∧
  ∀ x, x ∈ (seedTo y ws o n).2 ↔ 0 ≤ x ∧ x < n ∧ (rd o x < y ∨ ws.contains x = true)
 | 0, _ => ⟨fun p h0 _ => by rw [if_neg (by omega)]; rfl, fun x => by simp [seedTo]; omega⟩
 | n + 1, hn => by
  obtain ⟨h1, h2⟩ := seed_at y ws o n (by omega)
  rw [seedTo_succ]
  have hl : n < (seedTo y ws o n).1.length := by rw [seedTo_length]; omega
  have en : (seedTo y ws o n).1.getD n 0 = rd o n := by
   have := h1 (n : Int) (by omega) (by omega)
   rw [if_neg (by omega)] at this
   rw [← this]
   simp [rd]
  unfold seedS
  rw [en]
  by_cases c : rd o n < y ∨ ws.contains (n : Int) = true
  ·
   rw [if_pos c]
   refine ⟨fun p h0 hp => ?_, fun x => ?_⟩
   ·
    change rd ((seedTo y ws o n).1.set n _) p = _
    rw [rd_set _ _ _ _ h0 hl]
    by_cases e : p = n
    ·
     rw [if_pos e, e, if_pos ⟨by omega, c⟩]
    ·
     rw [if_neg e, h1 p h0 hp]
     by_cases c2 : p < n ∧ (rd o p < y ∨ ws.contains p = true)
     ·
      rw [if_pos c2, if_pos ⟨by omega, c2.2⟩]
     ·
      rw [if_neg c2, if_neg (fun h => c2 ⟨by omega, h.2⟩)]
   ·
    change x ∈ (seedTo y ws o n).2 ++ [(n : Int)] ↔ _
    rw [List.mem_append, h2, List.mem_singleton]
    constructor
    ·
     rintro (⟨a, b, c3⟩ | rfl)
     ·
      exact ⟨a, by omega, c3⟩
     ·
      exact ⟨by omega, by omega, c⟩
    ·
     rintro ⟨a, b, c3⟩
     by_cases e : x = n
     ·
      exact .inr e
     ·
      exact .inl ⟨a, by omega, c3⟩
  ·
   rw [if_neg c]
   refine ⟨fun p h0 hp => ?_, fun x => ?_⟩
   ·
    rw [h1 p h0 hp]
    by_cases c2 : p < n ∧ (rd o p < y ∨ ws.contains p = true)
    ·
     rw [if_pos c2, if_pos ⟨by omega, c2.2⟩]
    ·
     rw [if_neg c2, if_neg (fun h => ?_)]
     by_cases e : p = n
     ·
      exact c (e ▸ h.2)
     ·
      exact c2 ⟨by omega, h.2⟩
   ·
    rw [h2]
    constructor
    ·
     exact fun ⟨a, b, c3⟩ => ⟨a, by omega, c3⟩
    ·
     rintro ⟨a, b, c3⟩
     refine ⟨a, ?_, c3⟩
     by_cases e : x = n
     ·
      exact absurd (e ▸ c3) c
     ·
      omega
theorem relV_spec (hE : InP l1 P) {y : Nat} (p : Int) (hp : 0 ≤ p ∧ p < P) (hf : Fl l1 ws dk ths y p) : ∀ (ks : List Nat) (o' q : List Int), (∀ k ∈ ks, opE l1 dk ths y k) → Mid l1 ws dk ths P y o o' → (∀ x ∈ q, 0 ≤ x ∧ x < P ∧ rd o' x ≤ y) →
  Mid l1 ws dk ths P y o (relV l1 y p ks (o', q)).1 ∧ (∀ x ∈ (relV l1 y p ks (o', q)).2, 0 ≤ x ∧ x < P ∧ rd (relV l1 y p ks (o', q)).1 x ≤ y) ∧ (∀ x : Int, 0 ≤ x → rd o' x ≤ y → rd (relV l1 y p ks (o', q)).1 x ≤ y) ∧
  (∀ x ∈ q, x ∈ (relV l1 y p ks (o', q)).2) ∧ (∀ x : Int, 0 ≤ x → rd (relV l1 y p ks (o', q)).1 x ≤ y → rd o' x ≤ y ∨ x ∈ (relV l1 y p ks (o', q)).2) ∧ ∀ k ∈ ks, (qar l1 k).f0 = p → rd (relV l1 y p ks (o', q)).1 (qar l1 k).f1 ≤ y
 | [], o', q, _, hm, hq => ⟨hm, hq, fun _ _ h => h, fun _ h => h, fun _ _ h => .inl h, fun k hk => absurd hk (by simp)⟩
 | k :: ks, o', q, ho, hm, hq => by
  have hok := ho k (by simp)
  have hEk := (hE k hok.1).2
  have e : relV l1 y p (k :: ks) (o', q) = relV l1 y p ks (relS l1 y p (o', q) k) := rfl
  rw [e]
  have hl : (qar l1 k).f1.toNat < o'.length := by have := hm.len; omega
  by_cases c : (qar l1 k).f0 = p ∧ rd o' (qar l1 k).f1 > y
  ·
   have es : relS l1 y p (o', q) k = (o'.set (qar l1 k).f1.toNat y, q ++ [(qar l1 k).f1]) := by unfold relS; rw [if_pos c]
   rw [es]
   have hset : ∀ x : Int, 0 ≤ x → rd (o'.set (qar l1 k).f1.toNat y) x = if x = (qar l1 k).f1 then (y : Int) else rd o' x := fun x hx => by
    rw [rd_set _ _ _ _ hx hl, show (((qar l1 k).f1.toNat : Nat) : Int) = (qar l1 k).f1 from by omega]
   have hm2 := hm.put _ hEk c.2 (.edge hok (by rw [c.1]; exact hf))
   have hle : ∀ x : Int, 0 ≤ x → rd o' x ≤ y → rd (o'.set (qar l1 k).f1.toNat y) x ≤ y := fun x hx h => by
    rw [hset x hx]
    split
    ·
     exact Int.le_refl _
    ·
     exact h
   have h1 : rd (o'.set (qar l1 k).f1.toNat y) (qar l1 k).f1 ≤ y := by rw [hset _ hEk.1, if_pos rfl]; exact Int.le_refl _
   obtain ⟨g1, g2, g3, g4, g5, g6⟩ := relV_spec hE p hp hf ks _ (q ++ [(qar l1 k).f1]) (fun j hj => ho j (by simp [hj])) hm2 (fun x hx => by
    rcases List.mem_append.1 hx with hx | hx
    ·
     exact ⟨(hq x hx).1, (hq x hx).2.1, hle x (hq x hx).1 (hq x hx).2.2⟩
    ·
     rw [List.mem_singleton.1 hx]
     exact ⟨hEk.1, hEk.2, h1⟩)
   refine ⟨g1, g2, fun x hx h => g3 x hx (hle x hx h), fun x hx => g4 x (by simp [hx]), fun x hx h => ?_, fun j hj hj0 => ?_⟩
   ·
    rcases g5 x hx h with h | h
    ·
     rw [hset x hx] at h
     by_cases ex : x = (qar l1 k).f1
     ·
      exact .inr (g4 x (by simp [ex]))
     ·
      rw [if_neg ex] at h
      exact .inl h
    ·
     exact .inr h
   ·
    rcases List.mem_cons.1 hj with rfl | hj
    ·
     exact g3 _ hEk.1 h1
    ·
     exact g6 j hj hj0
  ·
   have es : relS l1 y p (o', q) k = (o', q) := by unfold relS; rw [if_neg c]
   rw [es]
   obtain ⟨g1, g2, g3, g4, g5, g6⟩ := relV_spec hE p hp hf ks o' q (fun j hj => ho j (by simp [hj])) hm hq
   refine ⟨g1, g2, g3, g4, g5, fun j hj hj0 => ?_⟩
   rcases List.mem_cons.1 hj with rfl | hj
   ·
    exact g3 _ hEk.1 (by
     have : ¬ rd o' (qar l1 j).f1 > y := fun h => c ⟨hj0, h⟩
     omega)
   ·
    exact g6 j hj hj0
theorem bfs_spec (hE : InP l1 P) {y : Nat} {d : Int} : ∀ (n : Nat) (o' q : List Int), cntN y o' + q.length < n → Mid l1 ws (fun i => dykeV d (i : Int)) ths P y o o' → (∀ x ∈ q, 0 ≤ x ∧ x < P ∧ rd o' x ≤ y) →
  (∀ i, opE l1 (fun i => dykeV d (i : Int)) ths y i → rd o' (qar l1 i).f0 ≤ y → rd o' (qar l1 i).f1 ≤ y ∨ (qar l1 i).f0 ∈ q) →
  Mid l1 ws (fun i => dykeV d (i : Int)) ths P y o (bfsV l1 (openL d l1 (rd ths y) l1.length) y n o' q) ∧ (∀ x : Int, 0 ≤ x → rd o' x ≤ y → rd (bfsV l1 (openL d l1 (rd ths y) l1.length) y n o' q) x ≤ y) ∧
  ∀ i, opE l1 (fun i => dykeV d (i : Int)) ths y i → rd (bfsV l1 (openL d l1 (rd ths y) l1.length) y n o' q) (qar l1 i).f0 ≤ y → rd (bfsV l1 (openL d l1 (rd ths y) l1.length) y n o' q) (qar l1 i).f1 ≤ y
 | 0, _, _, h, _, _, _ => by omega
 | n + 1, o', [], _, hm, _, hc => by
  refine ⟨hm, fun _ _ h => h, fun i hi h => ?_⟩
  rcases hc i hi h with h | h
  ·
   exact h
  ·
   simp at h
 | n + 1, o', p :: q, hn, hm, hq, hc => by
  have hp := hq p (by simp)
  obtain ⟨g1, g2, g3, g4, g5, g6⟩ := relV_spec hE p ⟨hp.1, hp.2.1⟩ (hm.snd p hp.1 hp.2.1 hp.2.2) (openL d l1 (rd ths y) l1.length) o' q (fun k hk => (openL_mem d l1 ths y k).1 hk) hm (fun x hx => hq x (by simp [hx]))
  have hms := relV_meas l1 (y : Int) p (openL d l1 (rd ths y) l1.length) (o', q) (fun k hk => by
   have := hE k ((openL_mem d l1 ths y k).1 hk).1
   have hl := hm.len
   exact ⟨this.2.1, by change _ < (o'.length : Int); omega⟩)
  have hlen : (p :: q).length = q.length + 1 := rfl
  have hms' : cntN y (relV l1 y p (openL d l1 (rd ths y) l1.length) (o', q)).1 + (relV l1 y p (openL d l1 (rd ths y) l1.length) (o', q)).2.length = cntN y o' + q.length := hms
  obtain ⟨f1, f2, f3⟩ := bfs_spec hE n _ _ (by omega) g1 g2 (fun i hi h => by
   have hEi := hE i hi.1
   rcases g5 _ hEi.1.1 h with h | h
   ·
    rcases hc i hi h with h | h
    ·
     exact .inl (g3 _ hEi.2.1 h)
    ·
     rcases List.mem_cons.1 h with h | h
     ·
      exact .inl (g6 i ((openL_mem d l1 ths y i).2 hi) h)
     ·
      exact .inr (g4 _ h)
   ·
    exact .inr h)
  exact ⟨f1, fun x hx h => f2 x hx (g3 x hx h), f3⟩
theorem foulTo_isF (hE : InP l1 P) {d : Int} (hw : ∀ p ∈ ws, 0 ≤ p ∧ p < P) : ∀ k, k ≤ ths.length → IsF l1 ws (fun i => dykeV d (i : Int)) ths ths.length P k k (foulTo P l1 ws d ths k)
 | 0, _ => by
  refine ⟨by simp [foulTo], fun p h0 h1 => ?_, fun p _ _ y hy => by omega⟩
  have e : rd (foulTo P l1 ws d ths 0) p = ths.length := by
   have hl : p.toNat < P := by omega
   simp [foulTo, rd, hl]
  rw [e]
  omega
 | k + 1, hk => by
  have h := foulTo_isF hE (d := d) hw k (by omega)
  obtain ⟨o, ho⟩ : ∃ o, o = foulTo P l1 ws d ths k := ⟨_, rfl⟩
  rw [← ho] at h
  have ey : foulTo P l1 ws d ths (k + 1) = yearV l1 ws d (rd ths k) k o := by rw [ho]; rfl
  rw [ey]
  have hol := h.len
  obtain ⟨s1, s2⟩ := seed_at (k : Int) ws o o.length (Nat.le_refl _)
  have hold : ∀ p : Int, 0 ≤ p → p < P → rd o p ≤ k → Fl l1 ws (fun i => dykeV d (i : Int)) ths k p := fun p h0 h1 hle => by
   have hr1 := (h.rng p h0 h1).1
   rcases (h.rng p h0 h1).2 with h2 | h2
   ·
    obtain ⟨m, rfl⟩ : ∃ m, k = m + 1 := ⟨k - 1, by omega⟩
    exact .later ((h.iff p h0 h1 m (by omega)).1 (by omega))
   ·
    omega
  have hm : Mid l1 ws (fun i => dykeV d (i : Int)) ths P k o (seedTo (k : Int) ws o o.length).1 := by
   refine ⟨by rw [seedTo_length]; exact hol, fun p h0 h1 => ?_, fun p h0 h1 hle => ?_⟩
   ·
    rw [s1 p h0 (by omega)]
    have hr := (h.rng p h0 h1).2
    split
    ·
     omega
    ·
     exact .inl rfl
   ·
    rw [s1 p h0 (by omega)] at hle
    by_cases c : p < (o.length : Int) ∧ (rd o p < (k : Int) ∨ ws.contains p = true)
    ·
     rcases c.2 with c2 | c2
     ·
      exact hold p h0 h1 (by omega)
     ·
      exact .waste (by simpa using c2)
    ·
     rw [if_neg c] at hle
     exact hold p h0 h1 hle
  have hq : ∀ x ∈ (seedTo (k : Int) ws o o.length).2, 0 ≤ x ∧ x < P ∧ rd (seedTo (k : Int) ws o o.length).1 x ≤ k := fun x hx => by
   obtain ⟨a, b, c⟩ := (s2 x).1 hx
   refine ⟨a, by omega, ?_⟩
   rw [s1 x a (by omega), if_pos ⟨b, c⟩]
   omega
  obtain ⟨f1, f2, f3⟩ := bfs_spec hE (y := k) (d := d) _ _ _ (Nat.lt_succ_self (cntN (k : Int) (seedTo (k : Int) ws o o.length).1 + (seedTo (k : Int) ws o o.length).2.length)) hm hq (fun i hi hle => by
   have hEi := hE i hi.1
   right
   refine (s2 _).2 ⟨hEi.1.1, by omega, ?_⟩
   rw [s1 _ hEi.1.1 (by omega)] at hle
   by_cases c : (qar l1 i).f0 < (o.length : Int) ∧ (rd o (qar l1 i).f0 < (k : Int) ∨ ws.contains (qar l1 i).f0 = true)
   ·
    exact c.2
   ·
    rw [if_neg c] at hle
    left
    have := (h.rng _ hEi.1.1 hEi.1.2).2
    omega)
  refine h.step (by omega) (by omega) hE hw f1.len f1.chg f1.snd (fun p hp => f2 p (hw p hp).1 ?_) f3
  have hpp := hw p hp
  rw [s1 p hpp.1 (by omega), if_pos ⟨by omega, .inr (by simpa using hp)⟩]
  omega
theorem foulV_isF (hE : InP l1 P) (d : Int) (hw : ∀ p ∈ ws, 0 ≤ p ∧ p < P) : IsF l1 ws (fun i => dykeV d (i : Int)) ths ths.length P ths.length ths.length (foulV P l1 ws d ths) := foulTo_isF hE hw ths.length (Nat.le_refl _)
end
end Go.Proofs.Ytafkanmioinbiaa.SA
namespace Go.Proofs.Ytafkanmioinbiaa.SA
open Go.RowKit Go.Proofs.YtafkanmioinbiaaW.PrintWords Go.Proofs.YtafkanmioinbiaaW.PrintLast Go.Proofs.YtafkanmioinbiaaW.PrintMore
attribute [local go_sem] max2_int min2_int max_two min_two qay qaz max_four min_four
def talikref07_End.l0 : Nat → Bool → List Int → Int → Int → List (S44) → List Int → List Int → List (S41) → List (S95) → Option (List Int)
 | 0, _, _, _, _, _, _, _, _, _ => none
 | k + 1, x1, x5, x6, x215000, x215001, x215002, x215003, x215004, x215005 => if x6 < (x215004.length : Int) then (if 0 ≤ x6 then (if x1 = true then (if x5.length < 17592186044416 then (talikref07_End.l0 k x1 (x5 ++ [(rd_T41 x215004 x6).f1]) (wrap64 (x6 + 1)) x215000 x215001 x215002 x215003 x215004 x215005) else (none)) else (if x5.length < 17592186044416 then (talikref07_End.l0 k x1 (x5 ++ [(rd_T41 x215004 x6).f0]) (wrap64 (x6 + 1)) x215000 x215001 x215002 x215003 x215004 x215005) else (none))) else (none)) else (some x5)
def talikref07_End.f (k : Nat) (a0_0 : Int) (l0_1 : List (S44)) (l0_2 : List Int) (l0_3 : List Int) (l0_4 : List (S41)) (l0_5 : List (S95)) (a1 : Bool) : Option (List Int) := talikref07_End.l0 k a1 ([] : List Int) 0 a0_0 l0_1 l0_2 l0_3 l0_4 l0_5
theorem talikref07_End.calls (k : Nat) (a0_0 : Int) (A0_1 : Option Addr) (c0_1 : Nat) (l0_1 : List (S44)) (A0_2 : Option Addr) (c0_2 : Nat) (l0_2 : List Int) (A0_3 : Option Addr) (c0_3 : Nat) (l0_3 : List Int) (A0_4 : Option Addr) (c0_4 : Nat) (l0_4 : List (S41)) (A0_5 : Option Addr) (c0_5 : Nat) (l0_5 : List (S95)) (a1 : Bool) (r : List Int) (w : World) (hr0_1 : Kd.C k44 w A0_1 l0_1.length l0_1) (hc0_1 : l0_1.length ≤ c0_1) (hr0_2 : Kd.C (Kd.int .i64) w A0_2 l0_2.length l0_2) (hc0_2 : l0_2.length ≤ c0_2) (hr0_3 : Kd.C (Kd.int .i64) w A0_3 l0_3.length l0_3) (hc0_3 : l0_3.length ≤ c0_3) (hr0_4 : Kd.C k41 w A0_4 l0_4.length l0_4) (hc0_4 : l0_4.length ≤ c0_4) (hr0_5 : Kd.C k95 w A0_5 l0_5.length l0_5) (hc0_5 : l0_5.length ≤ c0_5) (h : talikref07_End.f k a0_0 l0_1 l0_2 l0_3 l0_4 l0_5 a1 = some r) :
  Calls Try.prog 24 #[.agg #[.int .i64 a0_0, .slice A0_1 l0_1.length c0_1, .slice A0_2 l0_2.length c0_2, .slice A0_3 l0_3.length c0_3, .slice A0_4 l0_4.length c0_4, .slice A0_5 l0_5.length c0_5], .bool a1] w fun e w' => ∃ v0_ : Value, e = .returned (v0_) ∧ Kd.R (Kd.int .i64) 3 w' w.heap.size (fun _ => True) v0_ r ∧ Below w.heap.size w w' := by
 have hu27 := Try.underlying27
 have HR0_1 := qab.mk hr0_1
 have HC0_1 := qab.mk hc0_1
 clear hr0_1 hc0_1
 have HR0_2 := qab.mk hr0_2
 have HC0_2 := qab.mk hc0_2
 clear hr0_2 hc0_2
 have HR0_3 := qab.mk hr0_3
 have HC0_3 := qab.mk hc0_3
 clear hr0_3 hc0_3
 have HR0_4 := qab.mk hr0_4
 have HC0_4 := qab.mk hc0_4
 clear hr0_4 hc0_4
 have HR0_5 := qab.mk hr0_5
 have HC0_5 := qab.mk hc0_5
 clear hr0_5 hc0_5
 have HB := qab.mk (Below.refl w.heap.size w)
 have H : (talikref07_End.l0 k a1 ([] : List Int) 0 a0_0 l0_1 l0_2 l0_3 l0_4 l0_5) = some r := h
 clear h
 have H' := qab.mk H
 clear H
 go_enter Try.func24, Try.ntmps24
 go_wp2_with (first | ((with_reducible refine qam (N := 2) rfl ?_); refine ze 2 #[.int .i64 a0_0, .slice A0_1 l0_1.length c0_1, .slice A0_2 l0_2.length c0_2, .slice A0_3 l0_3.length c0_3, .slice A0_4 l0_4.length c0_4, .slice A0_5 l0_5.length c0_5] 27 ?_; intro gb214 hg w3 hbox hb; have n0_ := qab.mk (qae (zb HB.out) hb); have n1_ := qab.mk (hbox); have n2_ := qab.mk ((by rw [hg]; exact (qat (zb HB.out)) : w.heap.size ≤ gb214)); have n3_ := qab.mk ((by rw [hg]; exact (qat (zb HB.out)) : w.heap.size ≤ gb214)); clear HB; have HB := n0_; have BK214 := n1_; have GW214 := n2_; have GE214 := n3_; clear n0_ n1_ n2_ n3_; clear hb hbox hg))
 go_loopg [5, 6] k (fun kq v5 v6 w' => ∃ (x5_1 : List Int) (x6_1 : Int), v6 = .int .i64 x6_1 ∧ qab (talikref07_End.l0 kq a1 x5_1 x6_1 a0_0 l0_1 l0_2 l0_3 l0_4 l0_5 = some r) ∧ qab (kq ≤ k) ∧ qab (Kd.R (Kd.int .i64) 3 w' w.heap.size (fun _ => True) v5 x5_1) ∧ qab (w'.heap[gb214]? = some (.cells #[.int .i64 a0_0, (.slice A0_1 l0_1.length c0_1), (.slice A0_2 l0_2.length c0_2), (.slice A0_3 l0_3.length c0_3), (.slice A0_4 l0_4.length c0_4), (.slice A0_5 l0_5.length c0_5)] 27 (0, 0))) ∧ qab (Below w.heap.size w w'))
 case atStart => exact ⟨(([] : List Int)), (0), (by first | rfl | (simp; done) | (simp [*]; done)), H', ⟨Nat.le_refl _⟩, ⟨by first | exact Kd.R_nil _ _ _ _ _ | exact Kd.N_nil _ _ _ _ _ | exact Kd.V_nil _ _ _ _ _ | exact Kd.Q_nil _ _ _ _ _ | exact Kd.S_nil _ _ _ _ _⟩, ⟨zj BK214.out⟩, ⟨by repeat (first | (with_reducible first | exact HB.out | apply qag | apply qaf | apply qah | refine qaj ?_ GE214.out) | exact HB.out)⟩⟩
 case round =>
  clear H'
  try clear c2
  try clear p2
  obtain ⟨x5_1, x6_1, rfl, HA, HK1, HO_5, BK214, HB⟩ := hrel
  cases gk with
  | zero => exact absurd HA.out (by simp [talikref07_End.l0])
  | succ k1 =>
   have H := HA.out
   clear HA
   simp only [talikref07_End.l0] at H
   by_cases c4 : x6_1 < (l0_4.length : Int)
   ·
    rw [if_pos c4] at H
    have c4b0 : decide (x6_1 < (l0_4.length : Int)) = true := decide_eq_true c4
    clear c4
    by_cases c5 : 0 ≤ x6_1
    ·
     rw [if_pos c5] at H
     have c5b0 : decide (0 ≤ x6_1) = true := decide_eq_true c5
     clear c5
     by_cases c6 : a1 = true
     ·
      subst c6
      rw [if_pos rfl] at H
      by_cases c7 : x5_1.length < 17592186044416
      ·
       rw [if_pos c7] at H
       have LMc7 := qab.mk c7
       clear c7
       obtain ⟨y217, hy217⟩ : ∃ y_ : List Int, y_ = (x5_1 ++ [(rd_T41 l0_4 x6_1).f1]) := ⟨_, rfl⟩
       replace H : (talikref07_End.l0 k1 true y217 (wrap64 (x6_1 + 1)) a0_0 l0_1 l0_2 l0_3 l0_4 l0_5) = some r := by first | (rw [hy217]; with_reducible exact H) | (have H2_ := (Option.bind_some _ _).symm.trans H; rw [hy217]; with_reducible exact H2_) | (have H2_ := (Option.bind_some _ _).symm.trans H; with_reducible exact H2_) | with_reducible exact H | (rw [hy217]; exact H) | exact H
       have Ny217 := qab.mk hy217
       clear hy217
       have H' := qab.mk H
       clear H
       obtain ⟨hfz_, hcz8_0, hcz8_1, hcz8_2, hcz8_3, hcz8_4, hcz8_5⟩ := qz6 BK214.out
       have p215 : 0 ≤ (x6_1 : Int) := of_decide_eq_true (by first | (with_reducible assumption) | assumption)
       have q215 : x6_1 < (l0_4.length : Int) := of_decide_eq_true (by first | (with_reducible assumption) | assumption)
       obtain ⟨ad215, e215, hx215_0, hx215_1⟩ := at_T41 HR0_4.out x6_1 p215 q215
       cases e215
       replace hx215_0 := (HB.out.cell (World.block_lt_of_cell? w _ hx215_0)).trans hx215_0
       replace hx215_1 := (HB.out.cell (World.block_lt_of_cell? w _ hx215_1)).trans hx215_1
       replace p215 := eq_true p215
       replace q215 := eq_true q215
       have p216 : 0 ≤ (x6_1 : Int) := of_decide_eq_true (by first | (with_reducible assumption) | assumption)
       have q216 : x6_1 < (l0_4.length : Int) := of_decide_eq_true (by first | (with_reducible assumption) | assumption)
       obtain ⟨ad216, e216, hx216_0, hx216_1⟩ := at_T41 HR0_4.out x6_1 p216 q216
       obtain rfl : ad215 = ad216 := (by injection e216)
       replace hx216_0 := (HB.out.cell (World.block_lt_of_cell? w _ hx216_0)).trans hx216_0
       replace hx216_1 := (HB.out.cell (World.block_lt_of_cell? w _ hx216_1)).trans hx216_1
       replace p216 := eq_true p216
       replace q216 := eq_true q216
       go_wp2_with (first | ((with_reducible refine gate_builtin (b := .append) (xs := #[.tmp 28, .tmp 30]) rfl ?_); at_builtin; refine Kd.R_append (Kd.int .i64) (w0 := w) w.heap.size rfl (.tmp 28) (.tmp 30) 23 3 (.int .i64 0) 8 rfl Try.underlying23 info3 rfl (by decide) (by omega) u5 x5_1 ((rd_T41 l0_4 x6_1).f1) [.int .i64 ((rd_T41 l0_4 x6_1).f1)] (fun _ => True) (fun _ => False) rfl rfl ?aP (fun _ hk => hk.elim) ?aF ?aO ?aB ?aS ?aL ?_; (case aP => exact rfl); (case aB => exact (by repeat (first | (with_reducible first | exact HB.out | apply qag | apply qaf | apply qah | refine qaj ?_ GE214.out) | exact HB.out))); (case aF => exact (fun _ _ => trivial)); (case aO => exact (by (with_reducible repeat (first | apply Kd.qba | apply Kd.qbb | apply Kd.R_drew)); exact HO_5.out)); (case aS => exact (qat (by repeat (first | (with_reducible first | exact HB.out | apply qag | apply qaf | apply qah | refine qaj ?_ GE214.out) | exact HB.out)))); (case aL => have := LMc7.out; omega); intro v218 w9 ho hb hg hat; rw [← Ny217.out] at ho; have n0_ := qab.mk (blk_grown (g := gb214) (o := .cells #[.int .i64 a0_0, .slice A0_1 l0_1.length c0_1, .slice A0_2 l0_2.length c0_2, .slice A0_3 l0_3.length c0_3, .slice (some ad215) l0_4.length c0_4, .slice A0_5 l0_5.length c0_5] 27 (0, 0)) (by (with_reducible repeat (first | refine qas ?_ _ | refine qau ?_ | refine qap ?_ _)); exact BK214.out) hg (Kd.R_ne HO_5.out BK214.out (by decide))); have n1_ := qab.mk (hb); have n2_ := qab.mk (ho); clear BK214; clear HB; clear HO_5; have BK214 := n0_; have HB := n1_; have HO219 := n2_; clear n0_ n1_ n2_; clear ho hb hg hat))
       go_roundg k1
       case measure => have := HK1.out; omega
       case rel => exact ⟨(y217), (wrap64 (x6_1 + 1)), (by first | rfl | (simp; done) | (simp [*]; done)), H', ⟨by have := HK1.out; omega⟩, ⟨zy HO219.out⟩, ⟨zj BK214.out⟩, ⟨by repeat (first | (with_reducible first | exact HB.out | apply qag | apply qaf | apply qah | refine qaj ?_ GE214.out) | exact HB.out)⟩⟩
      ·
       rw [if_neg c7] at H
       exact absurd H (by simp)
     ·
      replace c6 := Bool.eq_false_iff.mpr c6
      subst c6
      rw [if_neg (show ¬ (false = true) by decide)] at H
      by_cases c10 : x5_1.length < 17592186044416
      ·
       rw [if_pos c10] at H
       have LMc10 := qab.mk c10
       clear c10
       obtain ⟨y220, hy220⟩ : ∃ y_ : List Int, y_ = (x5_1 ++ [(rd_T41 l0_4 x6_1).f0]) := ⟨_, rfl⟩
       replace H : (talikref07_End.l0 k1 false y220 (wrap64 (x6_1 + 1)) a0_0 l0_1 l0_2 l0_3 l0_4 l0_5) = some r := by first | (rw [hy220]; with_reducible exact H) | (have H2_ := (Option.bind_some _ _).symm.trans H; rw [hy220]; with_reducible exact H2_) | (have H2_ := (Option.bind_some _ _).symm.trans H; with_reducible exact H2_) | with_reducible exact H | (rw [hy220]; exact H) | exact H
       have Ny220 := qab.mk hy220
       clear hy220
       have H' := qab.mk H
       clear H
       obtain ⟨hfz_, hcz11_0, hcz11_1, hcz11_2, hcz11_3, hcz11_4, hcz11_5⟩ := qz6 BK214.out
       have p215 : 0 ≤ (x6_1 : Int) := of_decide_eq_true (by first | (with_reducible assumption) | assumption)
       have q215 : x6_1 < (l0_4.length : Int) := of_decide_eq_true (by first | (with_reducible assumption) | assumption)
       obtain ⟨ad215, e215, hx215_0, hx215_1⟩ := at_T41 HR0_4.out x6_1 p215 q215
       cases e215
       replace hx215_0 := (HB.out.cell (World.block_lt_of_cell? w _ hx215_0)).trans hx215_0
       replace hx215_1 := (HB.out.cell (World.block_lt_of_cell? w _ hx215_1)).trans hx215_1
       replace p215 := eq_true p215
       replace q215 := eq_true q215
       go_wp2_with (first | ((with_reducible refine gate_builtin (b := .append) (xs := #[.tmp 28, .tmp 30]) rfl ?_); at_builtin; refine Kd.R_append (Kd.int .i64) (w0 := w) w.heap.size rfl (.tmp 28) (.tmp 30) 23 3 (.int .i64 0) 8 rfl Try.underlying23 info3 rfl (by decide) (by omega) u5 x5_1 ((rd_T41 l0_4 x6_1).f0) [.int .i64 ((rd_T41 l0_4 x6_1).f0)] (fun _ => True) (fun _ => False) rfl rfl ?aP (fun _ hk => hk.elim) ?aF ?aO ?aB ?aS ?aL ?_; (case aP => exact rfl); (case aB => exact (by repeat (first | (with_reducible first | exact HB.out | apply qag | apply qaf | apply qah | refine qaj ?_ GE214.out) | exact HB.out))); (case aF => exact (fun _ _ => trivial)); (case aO => exact (by (with_reducible repeat (first | apply Kd.qba | apply Kd.qbb | apply Kd.R_drew)); exact HO_5.out)); (case aS => exact (qat (by repeat (first | (with_reducible first | exact HB.out | apply qag | apply qaf | apply qah | refine qaj ?_ GE214.out) | exact HB.out)))); (case aL => have := LMc10.out; omega); intro v221 w12 ho hb hg hat; rw [← Ny220.out] at ho; have n0_ := qab.mk (blk_grown (g := gb214) (o := .cells #[.int .i64 a0_0, .slice A0_1 l0_1.length c0_1, .slice A0_2 l0_2.length c0_2, .slice A0_3 l0_3.length c0_3, .slice (some ad215) l0_4.length c0_4, .slice A0_5 l0_5.length c0_5] 27 (0, 0)) (by (with_reducible repeat (first | refine qas ?_ _ | refine qau ?_ | refine qap ?_ _)); exact BK214.out) hg (Kd.R_ne HO_5.out BK214.out (by decide))); have n1_ := qab.mk (hb); have n2_ := qab.mk (ho); clear BK214; clear HB; clear HO_5; have BK214 := n0_; have HB := n1_; have HO222 := n2_; clear n0_ n1_ n2_; clear ho hb hg hat))
       go_roundg k1
       case measure => have := HK1.out; omega
       case rel => exact ⟨(y220), (wrap64 (x6_1 + 1)), (by first | rfl | (simp; done) | (simp [*]; done)), H', ⟨by have := HK1.out; omega⟩, ⟨zy HO222.out⟩, ⟨zj BK214.out⟩, ⟨by repeat (first | (with_reducible first | exact HB.out | apply qag | apply qaf | apply qah | refine qaj ?_ GE214.out) | exact HB.out)⟩⟩
      ·
       rw [if_neg c10] at H
       exact absurd H (by simp)
    ·
     rw [if_neg c5] at H
     exact absurd H (by simp)
   ·
    rw [if_neg c4] at H
    have c4b0 : decide (x6_1 < (l0_4.length : Int)) = false := decide_eq_false c4
    clear c4
    obtain rfl := Option.some.inj H
    obtain ⟨hfz_, hcz13_0, hcz13_1, hcz13_2, hcz13_3, hcz13_4, hcz13_5⟩ := qz6 BK214.out
    go_wp2
    go_ret
    exact ⟨_, by first | rfl | (simp [qaw, qax] <;> rfl) | (simp [*, qaw, qax] <;> rfl), by (with_reducible repeat (first | apply Kd.qba | apply Kd.qbb | apply Kd.R_drew)); exact HO_5.out, by repeat (first | (with_reducible first | exact HB.out | apply qag | apply qaf | apply qah | refine qaj ?_ GE214.out) | exact HB.out)⟩
end Go.Proofs.Ytafkanmioinbiaa.SA
