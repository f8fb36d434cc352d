/- What functions of the program answer. No condition. -/
import Derived.Test.YtafkanmioinbiaaSC
import Derived.Test.YtafkanmioinbiaaSD
import Derived.Test.YtafkanmioinbiaaFqA
import Derived.Test.YtafkanmioinbiaaSF
import Derived.RangeFuncNested
import Derived.RangeFuncBound
import Derived.RangeFuncCalls
import Derived.RangeFuncLeaves
import Derived.RangeFuncBox
import Derived.Shelf.Abstract
import Derived.Shelf.RegionOpen
import Derived.OwnWalkIn
import Derived.TacticsInMore
import Derived.LoopNIn
import Derived.LoopIn
import Derived.Recover
import Derived.Defers
import Derived.WalkLawsBesides
import Derived.WalkSmall
import Derived.Test.YtafkanmioinbiaaSE
import Derived.Test.YtafkanmioinbiaaSG
import Derived.Test.YtafkanmioinbiaaSH
import Derived.Test.YtafkanmioinbiaaSQ
import Derived.Test.YtafkanmioinbiaaSK
set_option linter.all false
set_option maxRecDepth 100000
set_option maxHeartbeats 8000000
namespace Go.Proofs.Ytafkanmioinbiaa.SA
open Go.RowKit Go.Proofs.YtafkanmioinbiaaW.PrintWords Go.Proofs.YtafkanmioinbiaaW.PrintLast Go.Proofs.YtafkanmioinbiaaW.PrintMore
attribute [local go_sem] qbc qbe max_two min_two qaz qba qbd qbf
def talikref07_Dam.f (a0_0 : Int) (l0_1 : List (S44)) (l0_2 : List Int) (l0_3 : List Int) (l0_4 : List (S41)) (l0_5 : List (S95)) (l1 : List Int) : Option (Bool) := some (damB l0_1 l1)
theorem talikref07_Dam.calls (a0_0 : Int) (A0_1 : Option Addr) (c0_1 : Nat) (l0_1 : List (S44)) (A0_2 : Option Addr) (c0_2 : Nat) (l0_2 : List Int) (A0_3 : Option Addr) (c0_3 : Nat) (l0_3 : List Int) (A0_4 : Option Addr) (c0_4 : Nat) (l0_4 : List (S41)) (A0_5 : Option Addr) (c0_5 : Nat) (l0_5 : List (S95)) (A1 : Option Addr) (c1 : Nat) (l1 : List Int) (r : Bool) (w : World) (hr0_1 : Kd.C k44 w A0_1 l0_1.length l0_1) (hc0_1 : l0_1.length ≤ c0_1) (hr0_2 : Kd.C (Kd.int .i64) w A0_2 l0_2.length l0_2) (hc0_2 : l0_2.length ≤ c0_2) (hr0_3 : Kd.C (Kd.int .i64) w A0_3 l0_3.length l0_3) (hc0_3 : l0_3.length ≤ c0_3) (hr0_4 : Kd.C k41 w A0_4 l0_4.length l0_4) (hc0_4 : l0_4.length ≤ c0_4) (hr0_5 : Kd.C k95 w A0_5 l0_5.length l0_5) (hc0_5 : l0_5.length ≤ c0_5) (hr1 : Kd.C (Kd.int .i64) w A1 l1.length l1) (hc1 : l1.length ≤ c1) (h : talikref07_Dam.f a0_0 l0_1 l0_2 l0_3 l0_4 l0_5 l1 = some r) :
  Calls Try.prog 37 #[.agg #[.int .i64 a0_0, .slice A0_1 l0_1.length c0_1, .slice A0_2 l0_2.length c0_2, .slice A0_3 l0_3.length c0_3, .slice A0_4 l0_4.length c0_4, .slice A0_5 l0_5.length c0_5], .slice A1 l1.length c1] w fun e w' => e = .returned (.bool r) ∧ Below w.heap.size w w' := by
 obtain rfl := Option.some.inj h
 clear h
 have hu27 := Try.underlying27
 have hu44 := Try.underlying44
 have m0 := Kd.C_max hr1
 have m1 := Kd.C_max hr0_1
 have HR := qab.mk hr1
 have HR1 := qab.mk hr0_1
 have HB := qab.mk (Below.refl w.heap.size w)
 obtain ⟨bb, hbb⟩ : ∃ b, wrap64 ((l0_1.length : Int) - 1) = b := ⟨_, rfl⟩
 have hbw : IntKind.i64.wrap ((l0_1.length : Int) - 1) = bb := (i64_w _).trans hbb
 have HBB : qab (bb = (l0_1.length : Int) - 1) := ⟨by rw [← hbb]; unfold wrap64; omega⟩
 clear hr0_1 hr0_2 hr0_3 hr0_4 hr0_5 hr1 hc1 hbb
 go_enter Try.func37, Try.ntmps37
 go_wp2_with ((with_reducible refine qaq (N := 2) rfl ?_); refine ze 2 #[.int .i64 a0_0, .slice A0_1 l0_1.length c0_1, .slice A0_2 l0_2.length c0_2, .slice A0_3 l0_3.length c0_3, .slice A0_4 l0_4.length c0_4, .slice A0_5 l0_5.length c0_5] 27 ?_; intro gb hg_gb w2 hbox hb; have BKgb := qab.mk hbox; have n_HB := qab.mk (qae HB.out hb); have GEgb : w.heap.size ≤ gb := (by rw [hg_gb]; exact HB.out.size); clear HB; have HB := n_HB; clear n_HB; obtain ⟨hfgb, hcgb_0, hcgb_1, hcgb_2, hcgb_3, hcgb_4, hcgb_5⟩ := qz6 BKgb.out; clear hbox hb hg_gb)
 go_loopw [5] (fun s5 wr => ∃ k : Nat, k ≤ l1.length ∧ s5 = .int .i64 k ∧ qab (∀ j : Nat, j < k → damAt l0_1 l1 j = true) ∧ qab (wr.heap[gb]? = some (.cells #[.int .i64 a0_0, .slice A0_1 l0_1.length c0_1, .slice A0_2 l0_2.length c0_2, .slice A0_3 l0_3.length c0_3, .slice A0_4 l0_4.length c0_4, .slice A0_5 l0_5.length c0_5] 27 (0, 0))) ∧ qab (Below w.heap.size w wr)) (fun s _ => l1.length - (intOf s).toNat)
 case atStart => exact ⟨0, by omega, rfl, ⟨fun j h1 => by omega⟩, BKgb, HB⟩
 case round =>
  clear BKgb HB hfgb hcgb_0 hcgb_1 hcgb_2 hcgb_3 hcgb_4 hcgb_5
  obtain ⟨k, hk1, rfl, HN, BKgb, HB⟩ := hrel
  by_cases hlt : k < l1.length
  ·
   obtain ⟨ad, e, t1⟩ := Kd.at_int HR.out k (by omega) (by omega)
   cases e
   simp only [Int.toNat_natCast] at t1
   replace t1 := (HB.out.cell (World.block_lt_of_cell? w _ t1)).trans t1
   obtain ⟨x, hx⟩ : ∃ x, x = rd l1 k := ⟨_, rfl⟩
   rw [← hx] at t1
   have HX : qab (l1.getD k 0 = x) := ⟨by rw [hx]; simp [rd]⟩
   clear hx
   have hb1 : inB x 0 ((l0_1.length : Int) - 1) = inB x 0 bb := by rw [HBB.out]
   have hin := rin_calls x 0 bb
   have HA : qab (damAt l0_1 l1 k = (inB x 0 bb && ((decide (k = 0) || decide (l1.getD (k - 1) 0 < x)) && decide (0 ≤ (qax l0_1 x).f3)))) := ⟨by unfold damAt; rw [HX.out, hb1]⟩
   clear hb1
   go_upto_region 4 with fail
   cases hib : inB x 0 bb with
   | false =>
    rw [hib] at hin
    have HIN := qab.mk hin
    have T1 := qab.mk t1
    have HV : qab (damB l0_1 l1 = false) := ⟨range_all_false k hlt (by rw [HA.out, hib]; rfl)⟩
    clear t1 hin hib
    have HT : qab (∀ W, Below wr.heap.size wr W → (W.cell? (ad.add k) = some (.int .i64 x) ∧ W.cell? ⟨gb, 1, none⟩ = some (.slice A0_1 l0_1.length c0_1) ∧ qab (Below wr.heap.size wr W))) := ⟨fun W h => ⟨(h.cell (World.block_lt_of_cell? wr _ T1.out)).trans T1.out, (qaa (qad BKgb.out h) 1).trans rfl, ⟨h⟩⟩⟩
    refine start_ (n := 38) (S := (fun w' => (w'.cell? (ad.add k) = some (.int .i64 x) ∧ w'.cell? ⟨gb, 1, none⟩ = some (.slice A0_1 l0_1.length c0_1) ∧ qab (Below wr.heap.size wr w')))) (ds := []) (msk 38 0) (by kernel_rfl) rfl rfl (HT.out _ (qbb (Below.refl _ _))) (fun hHeld => ?_)
    refine zq 0 1 12 ?_
    refine zq 1 2 13 ?_
    refine zq 2 3 14 ?_
    refine zt3 3 4 15 hHeld ?_
    refine zq 4 5 16 ?_
    refine zt3 5 6 17 hHeld ?_
    refine zq 6 7 18 ?_
    refine zq 7 8 19 ?_
    refine one_ (i := 8) (N := some 20) (msk 38 9) rfl rfl (by kernel_rfl) (by decide) (fun K hK => ?_)
    refine zg Try.func57 #[.int .i64 x, .int .i64 0, .int .i64 bb] ?_
    refine (HIN.out _).mono ?_; rintro e w5 ⟨rfl, hb⟩; have HP5 := qab.mk (HT.out w5 (qae hHeld.2.2.out hb)); clear hb; refine ⟨_, rfl, ?_⟩; refine hK.out _ _ HP5.out (fun hHeld => ?_); clear hK K; refine zn 20 ?_
    refine zq 9 10 21 ?_
    refine zq 10 11 22 ?_
    refine zo 11 12 23 ?_
    refine zo 12 13 24 ?_
    refine zo 13 14 25 ?_
    refine zo 14 15 26 ?_
    refine zo 15 16 27 ?_
    refine zo 16 17 28 ?_
    refine zo 17 18 29 ?_
    refine zo 18 19 30 ?_
    refine zo 19 20 31 ?_
    refine zo 20 21 32 ?_
    refine zo 21 22 33 ?_
    refine zo 22 23 34 ?_
    refine zo 23 24 35 ?_
    refine zo 24 25 36 ?_
    refine zq 25 26 37 ?_
    refine zq 26 27 38 ?_
    refine zo 27 28 39 ?_
    refine zo 28 29 40 ?_
    refine zo 29 30 41 ?_
    refine zo 30 31 42 ?_
    refine zo 31 32 43 ?_
    refine zo 32 33 44 ?_
    refine zo 33 34 45 ?_
    refine zo 34 35 46 ?_
    refine zo 35 36 47 ?_
    refine zo 36 37 48 ?_
    refine zq 37 38 49 ?_
    refine done_ (by kernel_rfl) ?_
    clear hHeld
    have HB9 := qab.mk (qae HB.out HP5.out.2.2.out)
    have BK9 := qab.mk (qad BKgb.out HP5.out.2.2.out)
    go_wp2
    go_ret
    exact ⟨by rw [HV.out]; rfl, HB9.out⟩
   | true =>
    have h01 : 0 ≤ x ∧ x < l0_1.length := by
     have h1 := HBB.out
     unfold inB at hib
     simp only [Bool.and_eq_true, decide_eq_true_eq] at hib
     omega
    rw [hib] at hin HA
    obtain ⟨n, rfl⟩ := Int.eq_ofNat_of_zero_le h01.1
    have hn : n < l0_1.length := by omega
    have HIN := qab.mk hin
    have T1 := qab.mk t1
    clear hin t1 hib h01 HX
    obtain ⟨a1, e, _, _, _, t3⟩ := at_T44 HR1.out n (by omega) (by omega)
    cases e
    simp only [Int.toNat_natCast] at t3
    replace t3 := (HB.out.cell (World.block_lt_of_cell? w _ t3)).trans t3
    obtain ⟨c, hc⟩ : ∃ c, c = (qax l0_1 n).f3 := ⟨_, rfl⟩
    rw [← hc] at t3
    have T3 := qab.mk t3
    rw [show (qax l0_1 ((n : Nat) : Int)).f3 = c from hc.symm, Bool.true_and] at HA
    clear t3 hc
    have hdc : (decide (c < 0)) = !decide (0 ≤ c) := by by_cases h : 0 ≤ c <;> simp [h] <;> omega
    rcases Nat.eq_zero_or_pos k with hk | hk
    ·
     have HW : qab (damAt l0_1 l1 k = decide (0 ≤ c)) := ⟨by rw [HA.out, decide_eq_true hk]; rfl⟩
     have hk0 : decide (0 < (k : Int)) = false := decide_eq_false (by omega)
     have hk0n : decide (0 < k) = false := decide_eq_false (by omega)
     clear hk HA
     have HT : qab (∀ W, Below wr.heap.size wr W → (W.cell? (ad.add k) = some (.int .i64 (n : Int)) ∧ W.cell? ⟨gb, 1, none⟩ = some (.slice (some a1) l0_1.length c0_1) ∧ W.cell? ⟨(a1.add (n * 4)).block, (a1.add (n * 4)).off + 3, none⟩ = some (.int .i64 c) ∧ qab (Below wr.heap.size wr W))) := ⟨fun W h => ⟨(h.cell (World.block_lt_of_cell? wr _ T1.out)).trans T1.out, (qaa (qad BKgb.out h) 1).trans rfl, (h.cell (World.block_lt_of_cell? wr _ T3.out)).trans T3.out, ⟨h⟩⟩⟩
     cases hcc : decide (0 ≤ c) with
     | false =>
      rw [hcc] at HW hdc
      have HV : qab (damB l0_1 l1 = false) := ⟨range_all_false k hlt HW.out⟩
      clear hcc
      refine start_ (n := 38) (S := (fun w' => (w'.cell? (ad.add k) = some (.int .i64 (n : Int)) ∧ w'.cell? ⟨gb, 1, none⟩ = some (.slice (some a1) l0_1.length c0_1) ∧ w'.cell? ⟨(a1.add (n * 4)).block, (a1.add (n * 4)).off + 3, none⟩ = some (.int .i64 c) ∧ qab (Below wr.heap.size wr w')))) (ds := []) (msk 38 0) (by kernel_rfl) rfl rfl (HT.out _ (qbb (Below.refl _ _))) (fun hHeld => ?_)
      refine zq 0 1 12 ?_
      refine zq 1 2 13 ?_
      refine zq 2 3 14 ?_
      refine zt4 3 4 15 hHeld ?_
      refine zq 4 5 16 ?_
      refine zt4 5 6 17 hHeld ?_
      refine zq 6 7 18 ?_
      refine zq 7 8 19 ?_
      refine one_ (i := 8) (N := some 20) (msk 38 9) rfl rfl (by kernel_rfl) (by decide) (fun K hK => ?_)
      refine zg Try.func57 #[.int .i64 (n : Int), .int .i64 0, .int .i64 bb] ?_
      refine (HIN.out _).mono ?_; rintro e w5 ⟨rfl, hb⟩; have HP5 := qab.mk (HT.out w5 (qae hHeld.2.2.2.out hb)); clear hb; refine ⟨_, rfl, ?_⟩; refine hK.out _ _ HP5.out (fun hHeld => ?_); clear hK K; refine zn 20 ?_
      refine zq 9 10 21 ?_
      refine zq 10 11 22 ?_
      refine zq 11 12 23 ?_
      refine zq 12 13 24 ?_
      refine zq 13 14 25 ?_
      refine zo 14 15 26 ?_
      refine zo 15 16 27 ?_
      refine zo 16 17 28 ?_
      refine zo 17 18 29 ?_
      refine zo 18 19 30 ?_
      refine zo 19 20 31 ?_
      refine zo 20 21 32 ?_
      refine zo 21 22 33 ?_
      refine zo 22 23 34 ?_
      refine zo 23 24 35 ?_
      refine zq 24 25 36 ?_
      refine zq 25 26 37 ?_
      refine zq 26 27 38 ?_
      refine zq 27 28 39 ?_
      refine zt4 28 29 40 hHeld ?_
      refine zq 29 30 41 ?_
      refine zq 30 31 42 ?_
      refine zq 31 32 43 ?_
      refine zt4 32 33 44 hHeld ?_
      refine zq 33 34 45 ?_
      refine zq 34 35 46 ?_
      refine zt4 35 36 47 hHeld ?_
      refine zq 36 37 48 ?_
      refine zq 37 38 49 ?_
      refine done_ (by kernel_rfl) ?_
      clear hHeld
      have HB9 := qab.mk (qae HB.out HP5.out.2.2.2.out)
      have BK9 := qab.mk (qad BKgb.out HP5.out.2.2.2.out)
      go_wp2
      go_ret
      exact ⟨by rw [HV.out]; rfl, HB9.out⟩
     | true =>
      rw [hcc] at HW hdc
      have HV := HW
      clear hcc
      refine start_ (n := 38) (S := (fun w' => (w'.cell? (ad.add k) = some (.int .i64 (n : Int)) ∧ w'.cell? ⟨gb, 1, none⟩ = some (.slice (some a1) l0_1.length c0_1) ∧ w'.cell? ⟨(a1.add (n * 4)).block, (a1.add (n * 4)).off + 3, none⟩ = some (.int .i64 c) ∧ qab (Below wr.heap.size wr w')))) (ds := []) (msk 38 0) (by kernel_rfl) rfl rfl (HT.out _ (qbb (Below.refl _ _))) (fun hHeld => ?_)
      refine zq 0 1 12 ?_
      refine zq 1 2 13 ?_
      refine zq 2 3 14 ?_
      refine zt4 3 4 15 hHeld ?_
      refine zq 4 5 16 ?_
      refine zt4 5 6 17 hHeld ?_
      refine zq 6 7 18 ?_
      refine zq 7 8 19 ?_
      refine one_ (i := 8) (N := some 20) (msk 38 9) rfl rfl (by kernel_rfl) (by decide) (fun K hK => ?_)
      refine zg Try.func57 #[.int .i64 (n : Int), .int .i64 0, .int .i64 bb] ?_
      refine (HIN.out _).mono ?_; rintro e w5 ⟨rfl, hb⟩; have HP5 := qab.mk (HT.out w5 (qae hHeld.2.2.2.out hb)); clear hb; refine ⟨_, rfl, ?_⟩; refine hK.out _ _ HP5.out (fun hHeld => ?_); clear hK K; refine zn 20 ?_
      refine zq 9 10 21 ?_
      refine zq 10 11 22 ?_
      refine zq 11 12 23 ?_
      refine zq 12 13 24 ?_
      refine zq 13 14 25 ?_
      refine zo 14 15 26 ?_
      refine zo 15 16 27 ?_
      refine zo 16 17 28 ?_
      refine zo 17 18 29 ?_
      refine zo 18 19 30 ?_
      refine zo 19 20 31 ?_
      refine zo 20 21 32 ?_
      refine zo 21 22 33 ?_
      refine zo 22 23 34 ?_
      refine zo 23 24 35 ?_
      refine zq 24 25 36 ?_
      refine zq 25 26 37 ?_
      refine zq 26 27 38 ?_
      refine zq 27 28 39 ?_
      refine zt4 28 29 40 hHeld ?_
      refine zq 29 30 41 ?_
      refine zq 30 31 42 ?_
      refine zq 31 32 43 ?_
      refine zt4 32 33 44 hHeld ?_
      refine zq 33 34 45 ?_
      refine zq 34 35 46 ?_
      refine zt4 35 36 47 hHeld ?_
      refine zq 36 37 48 ?_
      refine zq 37 38 49 ?_
      refine done_ (by kernel_rfl) ?_
      clear hHeld
      have HB9 := qab.mk (qae HB.out HP5.out.2.2.2.out)
      have BK9 := qab.mk (qad BKgb.out HP5.out.2.2.2.out)
      go_wp2
      go_roundw
      case rel => exact ⟨k + 1, by omega, by go_num, ⟨fun i hi => by
       rcases Nat.lt_or_ge i k with h | h
       ·
        exact HN.out i h
       ·
        obtain rfl : i = k := by omega
        exact HV.out⟩, BK9, HB9⟩
      case measure => simp [intOf]; omega
    ·
     obtain ⟨j, hj⟩ : ∃ j, k = j + 1 := ⟨k - 1, by omega⟩
     obtain ⟨_, e, t2⟩ := Kd.at_int HR.out j (by omega) (by omega)
     cases e
     simp only [Int.toNat_natCast] at t2
     replace t2 := (HB.out.cell (World.block_lt_of_cell? w _ t2)).trans t2
     obtain ⟨y, hy⟩ : ∃ y, y = rd l1 j := ⟨_, rfl⟩
     rw [← hy] at t2
     have T2 := qab.mk t2
     have HW : qab (damAt l0_1 l1 k = (decide (y < (n : Int)) && decide (0 ≤ c))) := ⟨by rw [HA.out, hy, hj]; simp [rd]⟩
     have hj1 : IntKind.i64.wrap ((k : Int) - 1) = (j : Int) := by rw [i64_w]; unfold wrap64; omega
     have hk0 : decide (0 < (k : Int)) = true := decide_eq_true (by omega)
     have hk0n : decide (0 < k) = true := decide_eq_true (by omega)
     have hjl : j < l1.length := by omega
     clear t2 hy HA hj hk
     by_cases hxy : (n : Int) ≤ y
     ·
      have hd : decide ((n : Int) ≤ y) = true := decide_eq_true hxy
      have HV : qab (damB l0_1 l1 = false) := ⟨range_all_false k hlt (by rw [HW.out, decide_eq_false (show ¬ y < (n : Int) by omega)]; rfl)⟩
      have HT : qab (∀ W, Below wr.heap.size wr W → (W.cell? (ad.add k) = some (.int .i64 (n : Int)) ∧ W.cell? ⟨gb, 1, none⟩ = some (.slice (some a1) l0_1.length c0_1) ∧ W.cell? (ad.add j) = some (.int .i64 y) ∧ qab (Below wr.heap.size wr W))) := ⟨fun W h => ⟨(h.cell (World.block_lt_of_cell? wr _ T1.out)).trans T1.out, (qaa (qad BKgb.out h) 1).trans rfl, (h.cell (World.block_lt_of_cell? wr _ T2.out)).trans T2.out, ⟨h⟩⟩⟩
      clear hxy hdc
      refine start_ (n := 38) (S := (fun w' => (w'.cell? (ad.add k) = some (.int .i64 (n : Int)) ∧ w'.cell? ⟨gb, 1, none⟩ = some (.slice (some a1) l0_1.length c0_1) ∧ w'.cell? (ad.add j) = some (.int .i64 y) ∧ qab (Below wr.heap.size wr w')))) (ds := []) (msk 38 0) (by kernel_rfl) rfl rfl (HT.out _ (qbb (Below.refl _ _))) (fun hHeld => ?_)
      refine zq 0 1 12 ?_
      refine zq 1 2 13 ?_
      refine zq 2 3 14 ?_
      refine zt4 3 4 15 hHeld ?_
      refine zq 4 5 16 ?_
      refine zt4 5 6 17 hHeld ?_
      refine zq 6 7 18 ?_
      refine zq 7 8 19 ?_
      refine one_ (i := 8) (N := some 20) (msk 38 9) rfl rfl (by kernel_rfl) (by decide) (fun K hK => ?_)
      refine zg Try.func57 #[.int .i64 (n : Int), .int .i64 0, .int .i64 bb] ?_
      refine (HIN.out _).mono ?_; rintro e w5 ⟨rfl, hb⟩; have HP5 := qab.mk (HT.out w5 (qae hHeld.2.2.2.out hb)); clear hb; refine ⟨_, rfl, ?_⟩; refine hK.out _ _ HP5.out (fun hHeld => ?_); clear hK K; refine zn 20 ?_
      refine zq 9 10 21 ?_
      refine zq 10 11 22 ?_
      refine zq 11 12 23 ?_
      refine zq 12 13 24 ?_
      refine zq 13 14 25 ?_
      refine zq 14 15 26 ?_
      refine zq 15 16 27 ?_
      refine zq 16 17 28 ?_
      refine zt4 17 18 29 hHeld ?_
      refine zq 18 19 30 ?_
      refine zq 19 20 31 ?_
      refine zq 20 21 32 ?_
      refine zq 21 22 33 ?_
      refine zt4 22 23 34 hHeld ?_
      refine zq 23 24 35 ?_
      refine zq 24 25 36 ?_
      refine zq 25 26 37 ?_
      refine zq 26 27 38 ?_
      refine zo 27 28 39 ?_
      refine zo 28 29 40 ?_
      refine zo 29 30 41 ?_
      refine zo 30 31 42 ?_
      refine zo 31 32 43 ?_
      refine zo 32 33 44 ?_
      refine zo 33 34 45 ?_
      refine zo 34 35 46 ?_
      refine zo 35 36 47 ?_
      refine zo 36 37 48 ?_
      refine zq 37 38 49 ?_
      refine done_ (by kernel_rfl) ?_
      clear hHeld
      have HB9 := qab.mk (qae HB.out HP5.out.2.2.2.out)
      have BK9 := qab.mk (qad BKgb.out HP5.out.2.2.2.out)
      go_wp2
      go_ret
      exact ⟨by rw [HV.out]; rfl, HB9.out⟩
     ·
      have hd : decide ((n : Int) ≤ y) = false := decide_eq_false hxy
      rw [decide_eq_true (show y < (n : Int) by omega), Bool.true_and] at HW
      have HT : qab (∀ W, Below wr.heap.size wr W → (W.cell? (ad.add k) = some (.int .i64 (n : Int)) ∧ W.cell? ⟨gb, 1, none⟩ = some (.slice (some a1) l0_1.length c0_1) ∧ W.cell? (ad.add j) = some (.int .i64 y) ∧ W.cell? ⟨(a1.add (n * 4)).block, (a1.add (n * 4)).off + 3, none⟩ = some (.int .i64 c) ∧ qab (Below wr.heap.size wr W))) := ⟨fun W h => ⟨(h.cell (World.block_lt_of_cell? wr _ T1.out)).trans T1.out, (qaa (qad BKgb.out h) 1).trans rfl, (h.cell (World.block_lt_of_cell? wr _ T2.out)).trans T2.out, (h.cell (World.block_lt_of_cell? wr _ T3.out)).trans T3.out, ⟨h⟩⟩⟩
      clear hxy
      cases hcc : decide (0 ≤ c) with
      | false =>
       rw [hcc] at HW hdc
       have HV : qab (damB l0_1 l1 = false) := ⟨range_all_false k hlt HW.out⟩
       clear hcc
       refine start_ (n := 38) (S := (fun w' => (w'.cell? (ad.add k) = some (.int .i64 (n : Int)) ∧ w'.cell? ⟨gb, 1, none⟩ = some (.slice (some a1) l0_1.length c0_1) ∧ w'.cell? (ad.add j) = some (.int .i64 y) ∧ w'.cell? ⟨(a1.add (n * 4)).block, (a1.add (n * 4)).off + 3, none⟩ = some (.int .i64 c) ∧ qab (Below wr.heap.size wr w')))) (ds := []) (msk 38 0) (by kernel_rfl) rfl rfl (HT.out _ (qbb (Below.refl _ _))) (fun hHeld => ?_)
       refine zq 0 1 12 ?_
       refine zq 1 2 13 ?_
       refine zq 2 3 14 ?_
       refine zt5 3 4 15 hHeld ?_
       refine zq 4 5 16 ?_
       refine zt5 5 6 17 hHeld ?_
       refine zq 6 7 18 ?_
       refine zq 7 8 19 ?_
       refine one_ (i := 8) (N := some 20) (msk 38 9) rfl rfl (by kernel_rfl) (by decide) (fun K hK => ?_)
       refine zg Try.func57 #[.int .i64 (n : Int), .int .i64 0, .int .i64 bb] ?_
       refine (HIN.out _).mono ?_; rintro e w5 ⟨rfl, hb⟩; have HP5 := qab.mk (HT.out w5 (qae hHeld.2.2.2.2.out hb)); clear hb; refine ⟨_, rfl, ?_⟩; refine hK.out _ _ HP5.out (fun hHeld => ?_); clear hK K; refine zn 20 ?_
       refine zq 9 10 21 ?_
       refine zq 10 11 22 ?_
       refine zq 11 12 23 ?_
       refine zq 12 13 24 ?_
       refine zq 13 14 25 ?_
       refine zq 14 15 26 ?_
       refine zq 15 16 27 ?_
       refine zq 16 17 28 ?_
       refine zt5 17 18 29 hHeld ?_
       refine zq 18 19 30 ?_
       refine zq 19 20 31 ?_
       refine zq 20 21 32 ?_
       refine zq 21 22 33 ?_
       refine zt5 22 23 34 hHeld ?_
       refine zq 23 24 35 ?_
       refine zq 24 25 36 ?_
       refine zq 25 26 37 ?_
       refine zq 26 27 38 ?_
       refine zq 27 28 39 ?_
       refine zt5 28 29 40 hHeld ?_
       refine zq 29 30 41 ?_
       refine zq 30 31 42 ?_
       refine zq 31 32 43 ?_
       refine zt5 32 33 44 hHeld ?_
       refine zq 33 34 45 ?_
       refine zq 34 35 46 ?_
       refine zt5 35 36 47 hHeld ?_
       refine zq 36 37 48 ?_
       refine zq 37 38 49 ?_
       refine done_ (by kernel_rfl) ?_
       clear hHeld
       have HB9 := qab.mk (qae HB.out HP5.out.2.2.2.2.out)
       have BK9 := qab.mk (qad BKgb.out HP5.out.2.2.2.2.out)
       go_wp2
       go_ret
       exact ⟨by rw [HV.out]; rfl, HB9.out⟩
      | true =>
       rw [hcc] at HW hdc
       have HV := HW
       clear hcc
       refine start_ (n := 38) (S := (fun w' => (w'.cell? (ad.add k) = some (.int .i64 (n : Int)) ∧ w'.cell? ⟨gb, 1, none⟩ = some (.slice (some a1) l0_1.length c0_1) ∧ w'.cell? (ad.add j) = some (.int .i64 y) ∧ w'.cell? ⟨(a1.add (n * 4)).block, (a1.add (n * 4)).off + 3, none⟩ = some (.int .i64 c) ∧ qab (Below wr.heap.size wr w')))) (ds := []) (msk 38 0) (by kernel_rfl) rfl rfl (HT.out _ (qbb (Below.refl _ _))) (fun hHeld => ?_)
       refine zq 0 1 12 ?_
       refine zq 1 2 13 ?_
       refine zq 2 3 14 ?_
       refine zt5 3 4 15 hHeld ?_
       refine zq 4 5 16 ?_
       refine zt5 5 6 17 hHeld ?_
       refine zq 6 7 18 ?_
       refine zq 7 8 19 ?_
       refine one_ (i := 8) (N := some 20) (msk 38 9) rfl rfl (by kernel_rfl) (by decide) (fun K hK => ?_)
       refine zg Try.func57 #[.int .i64 (n : Int), .int .i64 0, .int .i64 bb] ?_
       refine (HIN.out _).mono ?_; rintro e w5 ⟨rfl, hb⟩; have HP5 := qab.mk (HT.out w5 (qae hHeld.2.2.2.2.out hb)); clear hb; refine ⟨_, rfl, ?_⟩; refine hK.out _ _ HP5.out (fun hHeld => ?_); clear hK K; refine zn 20 ?_
       refine zq 9 10 21 ?_
       refine zq 10 11 22 ?_
       refine zq 11 12 23 ?_
       refine zq 12 13 24 ?_
       refine zq 13 14 25 ?_
       refine zq 14 15 26 ?_
       refine zq 15 16 27 ?_
       refine zq 16 17 28 ?_
       refine zt5 17 18 29 hHeld ?_
       refine zq 18 19 30 ?_
       refine zq 19 20 31 ?_
       refine zq 20 21 32 ?_
       refine zq 21 22 33 ?_
       refine zt5 22 23 34 hHeld ?_
       refine zq 23 24 35 ?_
       refine zq 24 25 36 ?_
       refine zq 25 26 37 ?_
       refine zq 26 27 38 ?_
       refine zq 27 28 39 ?_
       refine zt5 28 29 40 hHeld ?_
       refine zq 29 30 41 ?_
       refine zq 30 31 42 ?_
       refine zq 31 32 43 ?_
       refine zt5 32 33 44 hHeld ?_
       refine zq 33 34 45 ?_
       refine zq 34 35 46 ?_
       refine zt5 35 36 47 hHeld ?_
       refine zq 36 37 48 ?_
       refine zq 37 38 49 ?_
       refine done_ (by kernel_rfl) ?_
       clear hHeld
       have HB9 := qab.mk (qae HB.out HP5.out.2.2.2.2.out)
       have BK9 := qab.mk (qad BKgb.out HP5.out.2.2.2.2.out)
       go_wp2
       go_roundw
       case rel => exact ⟨k + 1, by omega, by go_num, ⟨fun i hi => by
        rcases Nat.lt_or_ge i k with h | h
        ·
         exact HN.out i h
        ·
         obtain rfl : i = k := by omega
         exact HV.out⟩, BK9, HB9⟩
       case measure => simp [intOf]; omega
  ·
   have HV : qab (damB l0_1 l1 = true) := ⟨range_all_true (fun j hj => HN.out j (by omega))⟩
   go_wp2
   go_ret
   exact ⟨by rw [HV.out]; rfl, HB.out⟩
def taliklaw07_asked.f (a0_0 : Int) (l0_1 : List (S44)) (l0_2 : List Int) (l0_3 : List Int) (l0_4 : List (S41)) (l0_5 : List (S95)) (l1 : List Int) : Option (Bool) := (talikref07_Map.f a0_0 l0_1 l0_2 l0_3 l0_4 l0_5).bind fun t191 => (if t191 = true then ((talikref07_Dam.f a0_0 l0_1 l0_2 l0_3 l0_4 l0_5 l1).bind fun t192 => (some t192)) else (some false))
theorem taliklaw07_asked.calls (a0_0 : Int) (A0_1 : Option Addr) (c0_1 : Nat) (l0_1 : List (S44)) (A0_2 : Option Addr) (c0_2 : Nat) (l0_2 : List Int) (A0_3 : Option Addr) (c0_3 : Nat) (l0_3 : List Int) (A0_4 : Option Addr) (c0_4 : Nat) (l0_4 : List (S41)) (A0_5 : Option Addr) (c0_5 : Nat) (l0_5 : List (S95)) (A1 : Option Addr) (c1 : Nat) (l1 : List Int) (r : Bool) (w : World) (hr0_1 : Kd.C k44 w A0_1 l0_1.length l0_1) (hc0_1 : l0_1.length ≤ c0_1) (hr0_2 : Kd.C (Kd.int .i64) w A0_2 l0_2.length l0_2) (hc0_2 : l0_2.length ≤ c0_2) (hr0_3 : Kd.C (Kd.int .i64) w A0_3 l0_3.length l0_3) (hc0_3 : l0_3.length ≤ c0_3) (hr0_4 : Kd.C k41 w A0_4 l0_4.length l0_4) (hc0_4 : l0_4.length ≤ c0_4) (hr0_5 : Kd.C k95 w A0_5 l0_5.length l0_5) (hc0_5 : l0_5.length ≤ c0_5) (hr1 : Kd.C (Kd.int .i64) w A1 l1.length l1) (hc1 : l1.length ≤ c1) (h : taliklaw07_asked.f a0_0 l0_1 l0_2 l0_3 l0_4 l0_5 l1 = some r) :
  Calls Try.prog 19 #[.agg #[.int .i64 a0_0, .slice A0_1 l0_1.length c0_1, .slice A0_2 l0_2.length c0_2, .slice A0_3 l0_3.length c0_3, .slice A0_4 l0_4.length c0_4, .slice A0_5 l0_5.length c0_5], .slice A1 l1.length c1] w fun e w' => e = .returned (.bool r) ∧ Below w.heap.size w w' := by
 have hu27 := Try.underlying27
 have HR0_1 := qab.mk hr0_1
 have HC0_1 := qab.mk hc0_1
 clear hr0_1 hc0_1
 have HR0_2 := qab.mk hr0_2
 have HC0_2 := qab.mk hc0_2
 clear hr0_2 hc0_2
 have HR0_3 := qab.mk hr0_3
 have HC0_3 := qab.mk hc0_3
 clear hr0_3 hc0_3
 have HR0_4 := qab.mk hr0_4
 have HC0_4 := qab.mk hc0_4
 clear hr0_4 hc0_4
 have HR0_5 := qab.mk hr0_5
 have HC0_5 := qab.mk hc0_5
 clear hr0_5 hc0_5
 have HR1 := qab.mk hr1
 have HC1 := qab.mk hc1
 clear hr1 hc1
 have HB := qab.mk (Below.refl w.heap.size w)
 have H : ((talikref07_Map.f a0_0 l0_1 l0_2 l0_3 l0_4 l0_5).bind fun t191 => (if t191 = true then ((talikref07_Dam.f a0_0 l0_1 l0_2 l0_3 l0_4 l0_5 l1).bind fun t192 => (some t192)) else (some false))) = some r := h
 clear h
 replace H := Option.bind_eq_some_iff.mp H
 obtain ⟨t191, A30, H⟩ := H
 try dsimp only at H
 have A3 := qab.mk A30
 clear A30
 by_cases c4 : t191 = true
 ·
  subst c4
  rw [if_pos rfl] at H
  replace H := Option.bind_eq_some_iff.mp H
  obtain ⟨t192, A50, H⟩ := H
  try dsimp only at H
  have A5 := qab.mk A50
  clear A50
  obtain rfl := Option.some.inj H
  go_enter Try.func19, Try.ntmps19
  go_wp2_with (first | ((with_reducible refine qaq (N := 2) rfl ?_); refine ze 2 #[.int .i64 a0_0, .slice A0_1 l0_1.length c0_1, .slice A0_2 l0_2.length c0_2, .slice A0_3 l0_3.length c0_3, .slice A0_4 l0_4.length c0_4, .slice A0_5 l0_5.length c0_5] 27 ?_; intro gb190 hg w6 hbox hb; have n0_ := qab.mk (qae (zb HB.out) hb); have n1_ := qab.mk (hbox); have n2_ := qab.mk ((by rw [hg]; exact (qaw (zb HB.out)) : w.heap.size ≤ gb190)); have n3_ := qab.mk ((by rw [hg]; exact (qaw (zb HB.out)) : w.heap.size ≤ gb190)); clear HB; have HB := n0_; have BK190 := n1_; have GW190 := n2_; have GE190 := n3_; clear n0_ n1_ n2_ n3_; clear hb hbox hg; obtain ⟨hfz_, hcz7_0, hcz7_1, hcz7_2, hcz7_3, hcz7_4, hcz7_5⟩ := qz6 BK190.out) | ((with_reducible refine qav (f := 27) rfl ?_); refine zl 6 Try.func27 #[.agg #[.int .i64 a0_0, .slice A0_1 l0_1.length c0_1, .slice A0_2 l0_2.length c0_2, .slice A0_3 l0_3.length c0_3, .slice A0_4 l0_4.length c0_4, .slice A0_5 l0_5.length c0_5]] ?_; (with_reducible refine (talikref07_Map.calls a0_0 _ _ l0_1 _ _ l0_2 _ _ l0_3 _ _ l0_4 _ _ l0_5 true _ ?side1 ?side2 ?side3 ?side4 ?side5 ?side6 ?side7 ?side8 ?side9 ?side10 A3.out).mono ?_); (case side1 => exact zs (Kd.qai HR0_1.out HB.out)); (case side2 => exact HC0_1.out); (case side3 => exact zs (Kd.qai HR0_2.out HB.out)); (case side4 => exact HC0_2.out); (case side5 => exact zs (Kd.qai HR0_3.out HB.out)); (case side6 => exact HC0_3.out); (case side7 => exact zs (Kd.qai HR0_4.out HB.out)); (case side8 => exact HC0_4.out); (case side9 => exact zs (Kd.qai HR0_5.out HB.out)); (case side10 => exact HC0_5.out); rintro e w8 ⟨rfl, hb⟩; refine ⟨_, rfl, ?_⟩; replace BK190 := qab.mk (zk BK190.out hb); replace HB := qab.mk (qae (by repeat (first | (with_reducible first | exact HB.out | apply qag | apply qaf | apply qah | refine qaj ?_ GE190.out) | exact HB.out)) hb); (try clear hb); (try clear hb2); (try clear hk); (try clear hi); obtain ⟨hfz_, hcz9_0, hcz9_1, hcz9_2, hcz9_3, hcz9_4, hcz9_5⟩ := qz6 BK190.out) | (go_at_call 37; (with_reducible refine (talikref07_Dam.calls a0_0 _ _ l0_1 _ _ l0_2 _ _ l0_3 _ _ l0_4 _ _ l0_5 _ _ l1 t192 _ ?side1 ?side2 ?side3 ?side4 ?side5 ?side6 ?side7 ?side8 ?side9 ?side10 ?side11 ?side12 A5.out).mono ?_); (case side1 => exact zs (Kd.qai HR0_1.out HB.out)); (case side2 => exact HC0_1.out); (case side3 => exact zs (Kd.qai HR0_2.out HB.out)); (case side4 => exact HC0_2.out); (case side5 => exact zs (Kd.qai HR0_3.out HB.out)); (case side6 => exact HC0_3.out); (case side7 => exact zs (Kd.qai HR0_4.out HB.out)); (case side8 => exact HC0_4.out); (case side9 => exact zs (Kd.qai HR0_5.out HB.out)); (case side10 => exact HC0_5.out); (case side11 => exact zs (Kd.qai HR1.out HB.out)); (case side12 => exact HC1.out); rintro e w10 ⟨rfl, hb⟩; replace BK190 := qab.mk (zk BK190.out hb); replace HB := qab.mk (qae (by repeat (first | (with_reducible first | exact HB.out | apply qag | apply qaf | apply qah | refine qaj ?_ GE190.out) | exact HB.out)) hb); (try clear hb); (try clear hb2); (try clear hk); (try clear hi)))
  go_ret
  exact ⟨by first | rfl | (simp [qat, qau] <;> rfl) | (simp [*, qat, qau] <;> rfl), by repeat (first | (with_reducible first | exact HB.out | apply qag | apply qaf | apply qah | refine qaj ?_ GE190.out) | exact HB.out)⟩
 ·
  replace c4 := Bool.eq_false_iff.mpr c4
  subst c4
  rw [if_neg (show ¬ (false = true) by decide)] at H
  obtain rfl := Option.some.inj H
  go_enter Try.func19, Try.ntmps19
  go_wp2_with (first | ((with_reducible refine qaq (N := 2) rfl ?_); refine ze 2 #[.int .i64 a0_0, .slice A0_1 l0_1.length c0_1, .slice A0_2 l0_2.length c0_2, .slice A0_3 l0_3.length c0_3, .slice A0_4 l0_4.length c0_4, .slice A0_5 l0_5.length c0_5] 27 ?_; intro gb190 hg w11 hbox hb; have n0_ := qab.mk (qae (zb HB.out) hb); have n1_ := qab.mk (hbox); have n2_ := qab.mk ((by rw [hg]; exact (qaw (zb HB.out)) : w.heap.size ≤ gb190)); have n3_ := qab.mk ((by rw [hg]; exact (qaw (zb HB.out)) : w.heap.size ≤ gb190)); clear HB; have HB := n0_; have BK190 := n1_; have GW190 := n2_; have GE190 := n3_; clear n0_ n1_ n2_ n3_; clear hb hbox hg; obtain ⟨hfz_, hcz12_0, hcz12_1, hcz12_2, hcz12_3, hcz12_4, hcz12_5⟩ := qz6 BK190.out) | ((with_reducible refine qav (f := 27) rfl ?_); refine zl 6 Try.func27 #[.agg #[.int .i64 a0_0, .slice A0_1 l0_1.length c0_1, .slice A0_2 l0_2.length c0_2, .slice A0_3 l0_3.length c0_3, .slice A0_4 l0_4.length c0_4, .slice A0_5 l0_5.length c0_5]] ?_; (with_reducible refine (talikref07_Map.calls a0_0 _ _ l0_1 _ _ l0_2 _ _ l0_3 _ _ l0_4 _ _ l0_5 false _ ?side1 ?side2 ?side3 ?side4 ?side5 ?side6 ?side7 ?side8 ?side9 ?side10 A3.out).mono ?_); (case side1 => exact zs (Kd.qai HR0_1.out HB.out)); (case side2 => exact HC0_1.out); (case side3 => exact zs (Kd.qai HR0_2.out HB.out)); (case side4 => exact HC0_2.out); (case side5 => exact zs (Kd.qai HR0_3.out HB.out)); (case side6 => exact HC0_3.out); (case side7 => exact zs (Kd.qai HR0_4.out HB.out)); (case side8 => exact HC0_4.out); (case side9 => exact zs (Kd.qai HR0_5.out HB.out)); (case side10 => exact HC0_5.out); rintro e w13 ⟨rfl, hb⟩; refine ⟨_, rfl, ?_⟩; replace BK190 := qab.mk (zk BK190.out hb); replace HB := qab.mk (qae (by repeat (first | (with_reducible first | exact HB.out | apply qag | apply qaf | apply qah | refine qaj ?_ GE190.out) | exact HB.out)) hb); (try clear hb); (try clear hb2); (try clear hk); (try clear hi)))
  go_ret
  exact ⟨by first | rfl | (simp [qat, qau] <;> rfl) | (simp [*, qat, qau] <;> rfl), by repeat (first | (with_reducible first | exact HB.out | apply qag | apply qaf | apply qah | refine qaj ?_ GE190.out) | exact HB.out)⟩
structure RF (w : World) (gb : Nat) (mcs : Array Value) (v : Value) (o : List Int) (W : World) : Prop where
 hb : Below w.heap.size w W
 b : W.heap[gb]? = some (.cells mcs 27 (0, 0))
 o : Kd.R (Kd.int .i64) 3 W w.heap.size (fun _ => True) v o
section
variable {w W W' : World} {gb : Nat} {mcs : Array Value} {v v' : Value} {o o' : List Int}
theorem RF.below (h : RF w gb mcs v o W) (hb : Below W.heap.size W W') : RF w gb mcs v o W' := ⟨qae h.hb hb, qad h.b hb, Kd.qan h.o hb⟩
theorem RF.app (h : RF w gb mcs v o W) (ho : Kd.R (Kd.int .i64) 3 W' w.heap.size (fun _ => True) v' o') (hB : Below w.heap.size w W') (hg : W.grownBy W' v.ownBlock) : RF w gb mcs v' o' W' := ⟨hB, blk_grown h.b hg (Kd.R_ne h.o h.b (by decide)), ho⟩
theorem RF.put {go n c : Nat} (h : RF w gb mcs (.slice (some ⟨go, 0, none⟩) n c) o W) (hn : 0 < n) (i : Nat) (x : Int) : RF w gb mcs (.slice (some ⟨go, 0, none⟩) n c) (o.set i x) (W.setCell ⟨go, i, none⟩ (.int .i64 x)) := by
 obtain ⟨h1, cs, h2⟩ := R_blk h.o hn
 exact ⟨qaj h.hb h1, blk_far (p := ⟨go, i, none⟩) h.b (blk_ne h.b h2 (by decide)) _, Kd.R_putn h.o (i : Int) x⟩
end
end Go.Proofs.Ytafkanmioinbiaa.SA
namespace Go.Proofs.Ytafkanmioinbiaa.SA
open Go.RowKit Go.Shelf Go.Proofs.YtafkanmioinbiaaW.PrintWords Go.Proofs.YtafkanmioinbiaaW.PrintLast Go.Proofs.YtafkanmioinbiaaW.PrintMore
attribute [local go_sem] qbc qbe max_two min_two qaz qba qbd qbf
def opE (l1 : List S44) (dk : Nat → Bool) (ths : List Int) (y i : Nat) : Prop := i < l1.length ∧ dk i = false ∧ (qax l1 i).f2 ≤ rd ths y
inductive Fl (l1 : List S44) (ws : List Int) (dk : Nat → Bool) (ths : List Int) : Nat → Int → Prop
 | waste {y : Nat} {p : Int} : p ∈ ws → Fl l1 ws dk ths y p
 | later {y : Nat} {p : Int} : Fl l1 ws dk ths y p → Fl l1 ws dk ths (y + 1) p
 | edge {y i : Nat} : opE l1 dk ths y i → Fl l1 ws dk ths y (qax l1 i).f0 → Fl l1 ws dk ths y (qax l1 i).f1
def InP (l1 : List S44) (P : Nat) : Prop := ∀ i : Nat, i < l1.length → (0 ≤ (qax l1 i).f0 ∧ (qax l1 i).f0 < P) ∧ (0 ≤ (qax l1 i).f1 ∧ (qax l1 i).f1 < P)
structure IsF (l1 : List S44) (ws : List Int) (dk : Nat → Bool) (ths : List Int) (N P b k : Nat) (o : List Int) : Prop where
 len : o.length = P
 rng : ∀ p : Int, 0 ≤ p → p < P → 0 ≤ rd o p ∧ (rd o p < b ∨ rd o p = N)
 iff : ∀ p : Int, 0 ≤ p → p < P → ∀ y : Nat, y < k → (rd o p ≤ y ↔ Fl l1 ws dk ths y p)
theorem rd_set (o : List Int) (n : Nat) (y x : Int) (hx : 0 ≤ x) (hn : n < o.length) : rd (o.set n y) x = if x = n then y else rd o x := by
 unfold rd
 rw [List.getD_eq_getElem?_getD, List.getElem?_set]
 by_cases h : x = n
 ·
  rw [if_pos (by omega), if_pos hn, if_pos h]
  rfl
 ·
  rw [if_neg (by omega), if_neg h, List.getD_eq_getElem?_getD]
section
variable {l1 : List S44} {ws : List Int} {dk : Nat → Bool} {ths : List Int} {N P b k : Nat} {o o' : List Int}
theorem IsF.step (hN : k < N) (h : IsF l1 ws dk ths N P b k o) (hb : b ≤ k + 1) (hE : InP l1 P) (hw : ∀ p ∈ ws, 0 ≤ p ∧ p < P) (h1 : o'.length = P)
  (h2 : ∀ p : Int, 0 ≤ p → p < P → rd o' p = rd o p ∨ (rd o p > k ∧ rd o' p = k)) (h3 : ∀ p : Int, 0 ≤ p → p < P → rd o' p ≤ k → Fl l1 ws dk ths k p)
  (h4 : ∀ p ∈ ws, rd o' p ≤ k) (h5 : ∀ i, opE l1 dk ths k i → rd o' (qax l1 i).f0 ≤ k → rd o' (qax l1 i).f1 ≤ k) : IsF l1 ws dk ths N P (k + 1) (k + 1) o' := by
 refine ⟨h1, fun p hp0 hp1 => ?_, fun p hp0 hp1 y hy => ?_⟩
 ·
  have := h.rng p hp0 hp1
  rcases h2 p hp0 hp1 with e | ⟨_, e⟩ <;> rw [e] <;> omega
 ·
  rcases Nat.lt_or_ge y k with hlt | hge
  ·
   rw [← h.iff p hp0 hp1 y hlt]
   rcases h2 p hp0 hp1 with e | ⟨e1, e2⟩
   ·
    rw [e]
   ·
    rw [e2]; constructor <;> intro _ <;> omega
  ·
   obtain rfl : y = k := by omega
   refine ⟨h3 p hp0 hp1, fun hf => ?_⟩
   have go : ∀ z q, Fl l1 ws dk ths z q → z = y → 0 ≤ q ∧ q < P → rd o' q ≤ y := by
    intro z q hq
    induction hq with
    | waste hm => exact fun _ _ => h4 _ hm
    | @later z q hq ih =>
     intro e hqP
     have := (h.iff q hqP.1 hqP.2 z (by omega)).2 hq
     rcases h2 q hqP.1 hqP.2 with e1 | ⟨e1, _⟩ <;> omega
    | @edge z i ho hq ih =>
     intro e _
     subst e
     exact h5 i ho (ih rfl (hE i ho.1).1)
   exact go y p hf rfl ⟨hp0, hp1⟩
structure Mid (l1 : List S44) (ws : List Int) (dk : Nat → Bool) (ths : List Int) (P y : Nat) (o o' : List Int) : Prop where
 len : o'.length = P
 chg : ∀ p : Int, 0 ≤ p → p < P → rd o' p = rd o p ∨ (rd o p > y ∧ rd o' p = y)
 snd : ∀ p : Int, 0 ≤ p → p < P → rd o' p ≤ y → Fl l1 ws dk ths y p
theorem Mid.put {y : Nat} (h : Mid l1 ws dk ths P y o o') (x : Int) (hx : 0 ≤ x ∧ x < P) (hgt : (y : Int) < rd o' x) (hf : Fl l1 ws dk ths y x) : Mid l1 ws dk ths P y o (o'.set x.toNat y) := by
 have hl : x.toNat < o'.length := by have := h.len; omega
 refine ⟨by rw [List.length_set]; exact h.len, fun p h0 h1 => ?_, fun p h0 h1 => ?_⟩
 ·
  rw [rd_set _ _ _ _ h0 hl]
  by_cases e : p = (x.toNat : Int)
  ·
   rw [if_pos e]
   obtain rfl : p = x := by omega
   refine .inr ⟨?_, rfl⟩
   rcases h.chg p h0 h1 with e | ⟨e, _⟩ <;> omega
  ·
   rw [if_neg e]
   exact h.chg p h0 h1
 ·
  rw [rd_set _ _ _ _ h0 hl]
  by_cases e : p = (x.toNat : Int)
  ·
   rw [if_pos e]
   obtain rfl : p = x := by omega
   exact fun _ => hf
  ·
   rw [if_neg e]
   exact h.snd p h0 h1
end
theorem openL_mem (d : Int) (es : List S44) (ths : List Int) (y i : Nat) : i ∈ openL d es (rd ths y) es.length ↔ opE es (fun i => dykeV d (i : Int)) ths y i := by
 unfold openL opE openB
 simp only [List.mem_filter, List.mem_range, Bool.and_eq_true, Bool.not_eq_true', decide_eq_true_eq, ge_iff_le]
section
variable {l1 : List S44} {ws : List Int} {dk : Nat → Bool} {ths : List Int} {N P : Nat} {o : List Int}
theorem seed_at (y : Int) (ws o : List Int) : ∀ n, n ≤ o.length → (∀ p : Int, 0 ≤ p → p < o.length → rd (seedTo y ws o n).1 p = if p < n ∧ (rd o p < y ∨ ws.contains p = true) then min (rd o p) y else rd o p) ∧
  ∀ x, x ∈ (seedTo y ws o n).2 ↔ 0 ≤ x ∧ x < n ∧ (rd o x < y ∨ ws.contains x = true)
 | 0, _ => ⟨fun p h0 _ => by rw [if_neg (by omega)]; rfl, fun x => by simp [seedTo]; omega⟩
 | n + 1, hn => by
  obtain ⟨h1, h2⟩ := seed_at y ws o n (by omega)
  rw [seedTo_succ]
  have hl : n < (seedTo y ws o n).1.length := by rw [seedTo_length]; omega
  have en : (seedTo y ws o n).1.getD n 0 = rd o n := by
   have := h1 (n : Int) (by omega) (by omega)
   rw [if_neg (by omega)] at this
   rw [← this]
   simp [rd]
  unfold seedS
  rw [en]
  by_cases c : rd o n < y ∨ ws.contains (n : Int) = true
  ·
   rw [if_pos c]
   refine ⟨fun p h0 hp => ?_, fun x => ?_⟩
   ·
    change rd ((seedTo y ws o n).1.set n _) p = _
    rw [rd_set _ _ _ _ h0 hl]
    by_cases e : p = n
    ·
     rw [if_pos e, e, if_pos ⟨by omega, c⟩]
    ·
     rw [if_neg e, h1 p h0 hp]
     by_cases c2 : p < n ∧ (rd o p < y ∨ ws.contains p = true)
     ·
      rw [if_pos c2, if_pos ⟨by omega, c2.2⟩]
     ·
      rw [if_neg c2, if_neg (fun h => c2 ⟨by omega, h.2⟩)]
   ·
    change x ∈ (seedTo y ws o n).2 ++ [(n : Int)] ↔ _
    rw [List.mem_append, h2, List.mem_singleton]
    constructor
    ·
     rintro (⟨a, b, c3⟩ | rfl)
     ·
      exact ⟨a, by omega, c3⟩
     ·
      exact ⟨by omega, by omega, c⟩
    ·
     rintro ⟨a, b, c3⟩
     by_cases e : x = n
     ·
      exact .inr e
     ·
      exact .inl ⟨a, by omega, c3⟩
  ·
   rw [if_neg c]
   refine ⟨fun p h0 hp => ?_, fun x => ?_⟩
   ·
    rw [h1 p h0 hp]
    by_cases c2 : p < n ∧ (rd o p < y ∨ ws.contains p = true)
    ·
     rw [if_pos c2, if_pos ⟨by omega, c2.2⟩]
    ·
     rw [if_neg c2, if_neg (fun h => ?_)]
     by_cases e : p = n
     ·
      exact c (e ▸ h.2)
     ·
      exact c2 ⟨by omega, h.2⟩
   ·
    rw [h2]
    constructor
    ·
     exact fun ⟨a, b, c3⟩ => ⟨a, by omega, c3⟩
    ·
     rintro ⟨a, b, c3⟩
     refine ⟨a, ?_, c3⟩
     by_cases e : x = n
     ·
      exact absurd (e ▸ c3) c
     ·
      omega
theorem relV_spec (hE : InP l1 P) {y : Nat} (p : Int) (hp : 0 ≤ p ∧ p < P) (hf : Fl l1 ws dk ths y p) : ∀ (ks : List Nat) (o' q : List Int), (∀ k ∈ ks, opE l1 dk ths y k) → Mid l1 ws dk ths P y o o' → (∀ x ∈ q, 0 ≤ x ∧ x < P ∧ rd o' x ≤ y) →
  Mid l1 ws dk ths P y o (relV l1 y p ks (o', q)).1 ∧ (∀ x ∈ (relV l1 y p ks (o', q)).2, 0 ≤ x ∧ x < P ∧ rd (relV l1 y p ks (o', q)).1 x ≤ y) ∧ (∀ x : Int, 0 ≤ x → rd o' x ≤ y → rd (relV l1 y p ks (o', q)).1 x ≤ y) ∧
  (∀ x ∈ q, x ∈ (relV l1 y p ks (o', q)).2) ∧ (∀ x : Int, 0 ≤ x → rd (relV l1 y p ks (o', q)).1 x ≤ y → rd o' x ≤ y ∨ x ∈ (relV l1 y p ks (o', q)).2) ∧ ∀ k ∈ ks, (qax l1 k).f0 = p → rd (relV l1 y p ks (o', q)).1 (qax l1 k).f1 ≤ y
 | [], o', q, _, hm, hq => ⟨hm, hq, fun _ _ h => h, fun _ h => h, fun _ _ h => .inl h, fun k hk => absurd hk (by simp)⟩
 | k :: ks, o', q, ho, hm, hq => by
  have hok := ho k (by simp)
  have hEk := (hE k hok.1).2
  have e : relV l1 y p (k :: ks) (o', q) = relV l1 y p ks (relS l1 y p (o', q) k) := rfl
  rw [e]
  have hl : (qax l1 k).f1.toNat < o'.length := by have := hm.len; omega
  by_cases c : (qax l1 k).f0 = p ∧ rd o' (qax l1 k).f1 > y
  ·
   have es : relS l1 y p (o', q) k = (o'.set (qax l1 k).f1.toNat y, q ++ [(qax l1 k).f1]) := by unfold relS; rw [if_pos c]
   rw [es]
   have hset : ∀ x : Int, 0 ≤ x → rd (o'.set (qax l1 k).f1.toNat y) x = if x = (qax l1 k).f1 then (y : Int) else rd o' x := fun x hx => by
    rw [rd_set _ _ _ _ hx hl, show (((qax l1 k).f1.toNat : Nat) : Int) = (qax l1 k).f1 from by omega]
   have hm2 := hm.put _ hEk c.2 (.edge hok (by rw [c.1]; exact hf))
   have hle : ∀ x : Int, 0 ≤ x → rd o' x ≤ y → rd (o'.set (qax l1 k).f1.toNat y) x ≤ y := fun x hx h => by
    rw [hset x hx]
    split
    ·
     exact Int.le_refl _
    ·
     exact h
   have h1 : rd (o'.set (qax l1 k).f1.toNat y) (qax l1 k).f1 ≤ y := by rw [hset _ hEk.1, if_pos rfl]; exact Int.le_refl _
   obtain ⟨g1, g2, g3, g4, g5, g6⟩ := relV_spec hE p hp hf ks _ (q ++ [(qax l1 k).f1]) (fun j hj => ho j (by simp [hj])) hm2 (fun x hx => by
    rcases List.mem_append.1 hx with hx | hx
    ·
     exact ⟨(hq x hx).1, (hq x hx).2.1, hle x (hq x hx).1 (hq x hx).2.2⟩
    ·
     rw [List.mem_singleton.1 hx]
     exact ⟨hEk.1, hEk.2, h1⟩)
   refine ⟨g1, g2, fun x hx h => g3 x hx (hle x hx h), fun x hx => g4 x (by simp [hx]), fun x hx h => ?_, fun j hj hj0 => ?_⟩
   ·
    rcases g5 x hx h with h | h
    ·
     rw [hset x hx] at h
     by_cases ex : x = (qax l1 k).f1
     ·
      exact .inr (g4 x (by simp [ex]))
     ·
      rw [if_neg ex] at h
      exact .inl h
    ·
     exact .inr h
   ·
    rcases List.mem_cons.1 hj with rfl | hj
    ·
     exact g3 _ hEk.1 h1
    ·
     exact g6 j hj hj0
  ·
   have es : relS l1 y p (o', q) k = (o', q) := by unfold relS; rw [if_neg c]
   rw [es]
   obtain ⟨g1, g2, g3, g4, g5, g6⟩ := relV_spec hE p hp hf ks o' q (fun j hj => ho j (by simp [hj])) hm hq
   refine ⟨g1, g2, g3, g4, g5, fun j hj hj0 => ?_⟩
   rcases List.mem_cons.1 hj with rfl | hj
   ·
    exact g3 _ hEk.1 (by
     have : ¬ rd o' (qax l1 j).f1 > y := fun h => c ⟨hj0, h⟩
     omega)
   ·
    exact g6 j hj hj0
theorem bfs_spec (hE : InP l1 P) {y : Nat} {d : Int} : ∀ (n : Nat) (o' q : List Int), cntN y o' + q.length < n → Mid l1 ws (fun i => dykeV d (i : Int)) ths P y o o' → (∀ x ∈ q, 0 ≤ x ∧ x < P ∧ rd o' x ≤ y) →
  (∀ i, opE l1 (fun i => dykeV d (i : Int)) ths y i → rd o' (qax l1 i).f0 ≤ y → rd o' (qax l1 i).f1 ≤ y ∨ (qax l1 i).f0 ∈ q) →
  Mid l1 ws (fun i => dykeV d (i : Int)) ths P y o (bfsV l1 (openL d l1 (rd ths y) l1.length) y n o' q) ∧ (∀ x : Int, 0 ≤ x → rd o' x ≤ y → rd (bfsV l1 (openL d l1 (rd ths y) l1.length) y n o' q) x ≤ y) ∧
  ∀ i, opE l1 (fun i => dykeV d (i : Int)) ths y i → rd (bfsV l1 (openL d l1 (rd ths y) l1.length) y n o' q) (qax l1 i).f0 ≤ y → rd (bfsV l1 (openL d l1 (rd ths y) l1.length) y n o' q) (qax l1 i).f1 ≤ y
 | 0, _, _, h, _, _, _ => by omega
 | n + 1, o', [], _, hm, _, hc => by
  refine ⟨hm, fun _ _ h => h, fun i hi h => ?_⟩
  rcases hc i hi h with h | h
  ·
   exact h
  ·
   simp at h
 | n + 1, o', p :: q, hn, hm, hq, hc => by
  have hp := hq p (by simp)
  obtain ⟨g1, g2, g3, g4, g5, g6⟩ := relV_spec hE p ⟨hp.1, hp.2.1⟩ (hm.snd p hp.1 hp.2.1 hp.2.2) (openL d l1 (rd ths y) l1.length) o' q (fun k hk => (openL_mem d l1 ths y k).1 hk) hm (fun x hx => hq x (by simp [hx]))
  have hms := relV_meas l1 (y : Int) p (openL d l1 (rd ths y) l1.length) (o', q) (fun k hk => by
   have := hE k ((openL_mem d l1 ths y k).1 hk).1
   have hl := hm.len
   exact ⟨this.2.1, by change _ < (o'.length : Int); omega⟩)
  have hlen : (p :: q).length = q.length + 1 := rfl
  have hms' : cntN y (relV l1 y p (openL d l1 (rd ths y) l1.length) (o', q)).1 + (relV l1 y p (openL d l1 (rd ths y) l1.length) (o', q)).2.length = cntN y o' + q.length := hms
  obtain ⟨f1, f2, f3⟩ := bfs_spec hE n _ _ (by omega) g1 g2 (fun i hi h => by
   have hEi := hE i hi.1
   rcases g5 _ hEi.1.1 h with h | h
   ·
    rcases hc i hi h with h | h
    ·
     exact .inl (g3 _ hEi.2.1 h)
    ·
     rcases List.mem_cons.1 h with h | h
     ·
      exact .inl (g6 i ((openL_mem d l1 ths y i).2 hi) h)
     ·
      exact .inr (g4 _ h)
   ·
    exact .inr h)
  exact ⟨f1, fun x hx h => f2 x hx (g3 x hx h), f3⟩
theorem foulTo_isF (hE : InP l1 P) {d : Int} (hw : ∀ p ∈ ws, 0 ≤ p ∧ p < P) : ∀ k, k ≤ ths.length → IsF l1 ws (fun i => dykeV d (i : Int)) ths ths.length P k k (foulTo P l1 ws d ths k)
 | 0, _ => by
  refine ⟨by simp [foulTo], fun p h0 h1 => ?_, fun p _ _ y hy => by omega⟩
  have e : rd (foulTo P l1 ws d ths 0) p = ths.length := by
   have hl : p.toNat < P := by omega
   simp [foulTo, rd, hl]
  rw [e]
  omega
 | k + 1, hk => by
  have h := foulTo_isF hE (d := d) hw k (by omega)
  obtain ⟨o, ho⟩ : ∃ o, o = foulTo P l1 ws d ths k := ⟨_, rfl⟩
  rw [← ho] at h
  have ey : foulTo P l1 ws d ths (k + 1) = yearV l1 ws d (rd ths k) k o := by rw [ho]; rfl
  rw [ey]
  have hol := h.len
  obtain ⟨s1, s2⟩ := seed_at (k : Int) ws o o.length (Nat.le_refl _)
  have hold : ∀ p : Int, 0 ≤ p → p < P → rd o p ≤ k → Fl l1 ws (fun i => dykeV d (i : Int)) ths k p := fun p h0 h1 hle => by
   have hr1 := (h.rng p h0 h1).1
   rcases (h.rng p h0 h1).2 with h2 | h2
   ·
    obtain ⟨m, rfl⟩ : ∃ m, k = m + 1 := ⟨k - 1, by omega⟩
    exact .later ((h.iff p h0 h1 m (by omega)).1 (by omega))
   ·
    omega
  have hm : Mid l1 ws (fun i => dykeV d (i : Int)) ths P k o (seedTo (k : Int) ws o o.length).1 := by
   refine ⟨by rw [seedTo_length]; exact hol, fun p h0 h1 => ?_, fun p h0 h1 hle => ?_⟩
   ·
    rw [s1 p h0 (by omega)]
    have hr := (h.rng p h0 h1).2
    split
    ·
     omega
    ·
     exact .inl rfl
   ·
    rw [s1 p h0 (by omega)] at hle
    by_cases c : p < (o.length : Int) ∧ (rd o p < (k : Int) ∨ ws.contains p = true)
    ·
     rcases c.2 with c2 | c2
     ·
      exact hold p h0 h1 (by omega)
     ·
      exact .waste (by simpa using c2)
    ·
     rw [if_neg c] at hle
     exact hold p h0 h1 hle
  have hq : ∀ x ∈ (seedTo (k : Int) ws o o.length).2, 0 ≤ x ∧ x < P ∧ rd (seedTo (k : Int) ws o o.length).1 x ≤ k := fun x hx => by
   obtain ⟨a, b, c⟩ := (s2 x).1 hx
   refine ⟨a, by omega, ?_⟩
   rw [s1 x a (by omega), if_pos ⟨b, c⟩]
   omega
  obtain ⟨f1, f2, f3⟩ := bfs_spec hE (y := k) (d := d) _ _ _ (Nat.lt_succ_self (cntN (k : Int) (seedTo (k : Int) ws o o.length).1 + (seedTo (k : Int) ws o o.length).2.length)) hm hq (fun i hi hle => by
   have hEi := hE i hi.1
   right
   refine (s2 _).2 ⟨hEi.1.1, by omega, ?_⟩
   rw [s1 _ hEi.1.1 (by omega)] at hle
   by_cases c : (qax l1 i).f0 < (o.length : Int) ∧ (rd o (qax l1 i).f0 < (k : Int) ∨ ws.contains (qax l1 i).f0 = true)
   ·
    exact c.2
   ·
    rw [if_neg c] at hle
    left
    have := (h.rng _ hEi.1.1 hEi.1.2).2
    omega)
  refine h.step (by omega) (by omega) hE hw f1.len f1.chg f1.snd (fun p hp => f2 p (hw p hp).1 ?_) f3
  have hpp := hw p hp
  rw [s1 p hpp.1 (by omega), if_pos ⟨by omega, .inr (by simpa using hp)⟩]
  omega
theorem foulV_isF (hE : InP l1 P) (d : Int) (hw : ∀ p ∈ ws, 0 ≤ p ∧ p < P) : IsF l1 ws (fun i => dykeV d (i : Int)) ths ths.length P ths.length ths.length (foulV P l1 ws d ths) := foulTo_isF hE hw ths.length (Nat.le_refl _)
end
end Go.Proofs.Ytafkanmioinbiaa.SA
namespace Go.Proofs.Ytafkanmioinbiaa.SA
open Go.RowKit Go.Proofs.YtafkanmioinbiaaW.PrintWords Go.Proofs.YtafkanmioinbiaaW.PrintLast Go.Proofs.YtafkanmioinbiaaW.PrintMore
attribute [local go_sem] qbc qbe max_two min_two qaz qba qbd qbf
end Go.Proofs.Ytafkanmioinbiaa.SA
namespace Go.Proofs.Ytafkanmioinbiaa.SA
open Go.RowKit Go.Shelf Go.Proofs.YtafkanmioinbiaaW.PrintWords Go.Proofs.YtafkanmioinbiaaW.PrintLast Go.Proofs.YtafkanmioinbiaaW.PrintMore
attribute [local go_sem] qbc qbe max_two min_two qaz qba qbd qbf
def shortB (l1 : List S44) (l2 l3 : List Int) (l4 : List S41) (l5 : List S95) : Bool := decide (l1.length ≤ 16) && (decide (l2.length ≤ 15) && (decide (l3.length ≤ 15) && (decide (l4.length ≤ 15) && decide (l5.length ≤ 10))))
theorem known_some : taliklaw07_known.f = some true := rfl
section
variable (p : Int) (l1 : List S44) (l2 l3 : List Int) (l4 : List S41) (l5 : List S95)
theorem short_eq : taliklaw07_short.f p l1 l2 l3 l4 l5 = some (shortB l1 l2 l3 l4 l5) := by
 unfold taliklaw07_short.f shortB
 by_cases h1 : l1.length ≤ 16
 ·
  rw [if_pos (by omega), decide_eq_true h1]
  by_cases h2 : l2.length ≤ 15
  ·
   rw [if_pos (by omega), decide_eq_true h2]
   by_cases h3 : l3.length ≤ 15
   ·
    rw [if_pos (by omega), decide_eq_true h3]
    by_cases h4 : l4.length ≤ 15
    ·
     rw [if_pos (by omega), decide_eq_true h4, show decide ((l5.length : Int) ≤ 10) = decide (l5.length ≤ 10) from decide_eq_decide.2 (by omega)]
     rfl
    ·
     rw [if_neg (by omega), decide_eq_false h4]
     rfl
   ·
    rw [if_neg (by omega), decide_eq_false h3]
    rfl
  ·
   rw [if_neg (by omega), decide_eq_false h2]
   rfl
 ·
  rw [if_neg (by omega), decide_eq_false h1]
  rfl
theorem wsucc (i : Nat) (h : i < 1000000) : wrap64 ((i : Int) + 1) = ((i + 1 : Nat) : Int) := by unfold wrap64; omega
theorem valid_cost (hv : validB p l1 l2 l3 l4 l5 = true) (i : Nat) (hi : i < l1.length) : -1 ≤ (qax l1 i).f3 ∧ (qax l1 i).f3 ≤ 1000000 := by
 unfold validB at hv
 have h1 := (Bool.and_eq_true_iff.1 hv).1
 rw [List.all_eq_true] at h1
 have h2 := h1 _ (List.getElem_mem hi)
 unfold edgeB inB at h2
 simp only [Bool.and_eq_true, decide_eq_true_eq] at h2
 have e : qax l1 (i : Int) = l1[i] := by simp [qax, hi]
 rw [e]
 omega
theorem dam_given (hv : validB p l1 l2 l3 l4 l5 = true) (l : List Int) : damB l1 l = givenB p l1 l2 l3 l4 l5 l := by
 have n1 := (valid_facts hv).n1
 unfold givenB
 rw [hv, Bool.true_and]
 have hw : wrap64 ((l1.length : Int) - 1) = (l1.length : Int) - 1 := by unfold wrap64; omega
 have hrd : ∀ k : Nat, ∀ hk : k < l.length, l.getD k 0 = l[k] := fun k hk => by simp [hk]
 cases hd : damB l1 l with
 | true =>
  unfold damB at hd
  rw [List.all_eq_true] at hd
  have hd' : ∀ k, k < l.length → damAt l1 l k = true := fun k hk => hd k (List.mem_range.2 hk)
  have h1 : incB l (l1.length : Int) = true := by
   unfold incB
   refine range_all_true (fun k hk => ?_)
   have := hd' k hk
   unfold damAt at this
   simp only [Bool.and_eq_true] at this
   unfold incAt
   rw [hw, this.1, this.2.1]
   rfl
  have h2 : (l.all fun n => !decide ((qax l1 n).f3 = -1)) = true := by
   rw [List.all_eq_true]
   intro x hx
   obtain ⟨k, hk, rfl⟩ := List.mem_iff_getElem.1 hx
   have := hd' k hk
   unfold damAt at this
   rw [hrd k hk] at this
   simp only [Bool.and_eq_true, decide_eq_true_eq] at this
   have h3 := this.2.2
   simp
   omega
  rw [h1, h2]
  rfl
 | false =>
  unfold damB at hd
  rw [List.all_eq_false] at hd
  obtain ⟨k, hk, hk2⟩ := hd
  have hk := List.mem_range.1 hk
  symm
  rw [Bool.and_eq_false_iff]
  by_cases c : incAt l (l1.length : Int) k = true
  ·
   right
   rw [List.all_eq_false]
   refine ⟨l[k], List.getElem_mem hk, ?_⟩
   unfold incAt at c
   rw [hw] at c
   simp only [Bool.and_eq_true] at c
   unfold damAt at hk2
   rw [c.1, c.2, Bool.true_and, Bool.true_and, hrd k hk] at hk2
   have hi := c.1
   rw [hrd k hk] at hi
   unfold inB at hi
   simp only [Bool.and_eq_true, decide_eq_true_eq] at hi
   obtain ⟨m, hm⟩ := Int.eq_ofNat_of_zero_le hi.1
   have hc := valid_cost p l1 l2 l3 l4 l5 hv m (by omega)
   rw [hm] at hk2 ⊢
   simp only [decide_eq_true_eq, Bool.not_eq_true', decide_eq_false_iff_not, Classical.not_not] at hk2 ⊢
   omega
  ·
   left
   exact range_all_false k hk (by simpa using c)
theorem asked_eq (l : List Int) : taliklaw07_asked.f p l1 l2 l3 l4 l5 l = some (givenB p l1 l2 l3 l4 l5 l) := by
 unfold taliklaw07_asked.f
 rw [show talikref07_Map.f p l1 l2 l3 l4 l5 = some (validB p l1 l2 l3 l4 l5) from rfl, Option.bind_some]
 cases hv : validB p l1 l2 l3 l4 l5 with
 | true =>
  rw [if_pos rfl, show talikref07_Dam.f p l1 l2 l3 l4 l5 l = some (damB l1 l) from rfl, Option.bind_some, dam_given p l1 l2 l3 l4 l5 hv]
 | false =>
  rw [if_neg (by simp)]
  unfold givenB
  rw [hv]
  rfl
end
theorem Fl.congr {l1 : List S44} {ws : List Int} {dk dk' : Nat → Bool} {ths : List Int} (h : ∀ i, i < l1.length → dk i = dk' i) {y : Nat} {x : Int} (hf : Fl l1 ws dk ths y x) : Fl l1 ws dk' ths y x := by
 induction hf with
 | waste hm => exact .waste hm
 | later _ ih => exact .later ih
 | edge ho _ ih => exact .edge ⟨ho.1, by rw [← h _ ho.1]; exact ho.2.1, ho.2.2⟩ ih
theorem IsF.congr {l1 : List S44} {ws : List Int} {dk dk' : Nat → Bool} {ths : List Int} {N P b k : Nat} {o : List Int} (h : ∀ i, i < l1.length → dk i = dk' i) (hf : IsF l1 ws dk ths N P b k o) : IsF l1 ws dk' ths N P b k o :=
 ⟨hf.len, hf.rng, fun p h0 h1 y hy => (hf.iff p h0 h1 y hy).trans ⟨fun g => g.congr h, fun g => g.congr (fun i hi => (h i hi).symm)⟩⟩
section
variable {p : Int} {l1 : List S44} {l2 l3 : List Int} {l4 : List S41} {l5 : List S95} {l : List Int}
theorem valid_InP (hv : validB p l1 l2 l3 l4 l5 = true) : InP l1 p.toNat := fun i hi => by
 have h := (valid_facts hv).e i hi
 have := (valid_facts hv).pp
 omega
theorem valid_ws (hv : validB p l1 l2 l3 l4 l5 = true) : ∀ x ∈ l2, 0 ≤ x ∧ x < p.toNat := fun x hx => by
 have h := (valid_facts hv).w2 x hx
 omega
theorem given_inc (hg : givenB p l1 l2 l3 l4 l5 l = true) : incB l (l1.length : Int) = true := by
 unfold givenB at hg
 simp only [Bool.and_eq_true] at hg
 exact hg.2.1
theorem given_dyke (hg : givenB p l1 l2 l3 l4 l5 l = true) (i : Nat) (hi : i < l1.length) : dykeV (maskV l : Int) (i : Int) = l.contains (i : Int) := by
 have n1 := (valid_facts (given_valid hg)).n1
 have hm := inc_mem (given_inc hg) (.inr (by omega)) (by omega)
 have hlt : maskV l < 2 ^ 12 := mask_lt l 12 (fun x hx => ⟨(hm x hx).1, by have := (hm x hx).2; omega⟩)
 rw [dyke_bit _ (by omega) i (by omega), mask_bit l (fun x hx => (hm x hx).1)]
 cases h : l.contains (i : Int) with
 | true =>
  rw [List.any_eq_true]
  exact ⟨i, by simpa using h, by simp⟩
 | false =>
  rw [List.any_eq_false]
  intro x hx hxi
  have : x = (i : Int) := by simpa using hxi
  subst this
  simp [hx] at h
theorem foul_isF (hg : givenB p l1 l2 l3 l4 l5 l = true) (ths : List Int) : IsF l1 l2 (fun i => l.contains (i : Int)) ths ths.length p.toNat ths.length ths.length (foulV p.toNat l1 l2 (maskV l) ths) :=
 (foulV_isF (valid_InP (given_valid hg)) _ (valid_ws (given_valid hg))).congr (given_dyke hg)
end
theorem Fl.mono {l1 l1' : List S44} {ws ws' : List Int} {dk dk' : Nat → Bool} {ths ths' : List Int} {N : Nat} (hw : ∀ p ∈ ws, p ∈ ws') (he : ∀ y i, y < N → opE l1 dk ths y i → opE l1' dk' ths' y i) (hr : ∀ i : Nat, i < l1.length → qax l1' i = qax l1 i)
  {y : Nat} {x : Int} (hf : Fl l1 ws dk ths y x) : y < N → Fl l1' ws' dk' ths' y x := by
 induction hf with
 | waste hm => exact fun _ => .waste (hw _ hm)
 | later _ ih => exact fun h => .later (ih (by omega))
 | @edge y i ho _ ih =>
  intro h
  have h1 := Fl.edge (he y i h ho) (by rw [hr i ho.1]; exact ih h)
  rwa [hr i ho.1] at h1
theorem rd_map1 (l4 : List S41) (y : Nat) (hy : y < l4.length) : rd (l4.map (·.f1)) (y : Int) = (rd_T41 l4 y).f1 := by simp [rd, rd_T41, hy]
theorem rd_spans (A B : List Int) (P : Nat) (x : Int) (h0 : 0 ≤ x) (h1 : x < P) : rd_T41 ((List.range P).map (spanAt A B)) x = ⟨rd A x, rd B x⟩ := by
 have hl : x.toNat < P := by omega
 simp [rd_T41, hl, spanAt, show ((x.toNat : Nat) : Int) = x from by omega]
def costV (l1 : List S44) (l : List Int) : Int := (l.map fun x => (qax l1 x).f3).sum
theorem chC_cost (l1 : List S44) (b n : Nat) : chC l1 b n = costV l1 (chL b n) := by
 unfold chC costV chL
 rw [List.map_map]
 rfl
section
variable {p : Int} {l1 : List S44} {l2 l3 : List Int} {l4 : List S41} {l5 : List S95} {l : List Int}
theorem choices_cost (x : Int × List Int) (h : x ∈ choicesV l1) : x.1 = costV l1 x.2 := by
 unfold choicesV choicesTo at h
 obtain ⟨b, _, rfl⟩ := List.mem_map.1 h
 exact chC_cost _ _ _
end
theorem cmpL_flip : ∀ a b : List Int, cmpL a b = - cmpL b a
 | [], [] => rfl
 | [], _ :: _ => rfl
 | _ :: _, [] => rfl
 | x :: t, y :: u => by
  have := cmpL_flip t u
  simp only [cmpL]
  unfold cmpI
  by_cases h : x < y
  ·
   rw [if_pos h, if_neg (show ¬ y < x by omega), if_pos (show y > x by omega)]
   simp
  ·
   by_cases h2 : x > y
   ·
    rw [if_neg h, if_pos h2, if_pos (show y < x by omega)]
    simp
   ·
    rw [if_neg h, if_neg h2, if_neg (show ¬ y < x by omega), if_neg (show ¬ y > x by omega)]
    simp
    exact this
theorem cmpL_trans : ∀ a b c : List Int, cmpL a b ≤ 0 → cmpL b c < 0 → cmpL a c < 0
 | [], [], [], _, h => h
 | [], [], _ :: _, _, _ => by simp [cmpL]
 | [], _ :: _, [], _, h => by simp [cmpL] at h
 | [], _ :: _, _ :: _, _, _ => by simp [cmpL]
 | _ :: _, [], _, h, _ => by simp [cmpL] at h
 | _ :: _, _ :: _, [], _, h => by simp [cmpL] at h
 | x :: t, y :: u, z :: v, h1, h2 => by
  have ih := cmpL_trans t u v
  simp only [cmpL] at h1 h2 ⊢
  unfold cmpI at *
  by_cases a1 : x < y
  ·
   by_cases a2 : y < z
   ·
    rw [if_pos (show x < z by omega)]; simp
   ·
    by_cases a3 : y > z
    ·
     rw [if_neg a2, if_pos a3] at h2; simp at h2
    ·
     rw [if_pos (show x < z by omega)]; simp
  ·
   by_cases a3 : x > y
   ·
    rw [if_neg a1, if_pos a3] at h1; simp at h1
   ·
    obtain rfl : x = y := by omega
    simp at h1
    by_cases a2 : x < z
    ·
     rw [if_pos a2]; simp
    ·
     by_cases a4 : x > z
     ·
      rw [if_neg a2, if_pos a4] at h2; simp at h2
     ·
      rw [if_neg a2, if_neg a4] at h2 ⊢
      simp at h2 ⊢
      exact ih h1 h2
theorem cmpI_nat (a b : Int) : (cmpI a b = 0 ↔ a = b) ∧ (cmpI a b < 0 ↔ a < b) ∧ (cmpI a b ≤ 0 ↔ a ≤ b) := by
 unfold cmpI
 by_cases h : a < b
 ·
  rw [if_pos h]; omega
 ·
  by_cases h2 : a > b
  ·
   rw [if_neg h, if_pos h2]; omega
  ·
   rw [if_neg h, if_neg h2]; omega
theorem before_iff (x y : Int × List Int) : beforeB x y = true ↔ x.1 < y.1 ∨ x.1 = y.1 ∧ (x.2.length < y.2.length ∨ x.2.length = y.2.length ∧ cmpL x.2 y.2 < 0) := by
 unfold beforeB orI
 rw [decide_eq_true_eq]
 obtain ⟨a1, a2, a3⟩ := cmpI_nat x.1 y.1
 obtain ⟨b1, b2, b3⟩ := cmpI_nat (x.2.length : Int) (y.2.length : Int)
 by_cases h : cmpI x.1 y.1 = 0
 ·
  rw [if_pos h]
  by_cases h2 : cmpI (x.2.length : Int) (y.2.length : Int) = 0
  ·
   rw [if_pos h2]; omega
  ·
   rw [if_neg h2]; omega
 ·
  rw [if_neg h]; omega
theorem before_trans (x y z : Int × List Int) (h1 : beforeB y x = false) (h2 : beforeB y z = true) : beforeB x z = true := by
 have h1' : ¬ beforeB y x = true := by rw [h1]; simp
 rw [before_iff] at *
 have hf := cmpL_flip x.2 y.2
 rcases h2 with h2 | ⟨h2, h3⟩
 ·
  left; omega
 ·
  rcases h3 with h3 | ⟨h3, h4⟩
  ·
   by_cases e : x.1 = z.1
   ·
    right; refine ⟨e, .inl ?_⟩; omega
   ·
    left; omega
  ·
   by_cases e : x.1 = z.1
   ·
    right
    refine ⟨e, ?_⟩
    by_cases e2 : x.2.length = z.2.length
    ·
     exact .inr ⟨e2, cmpL_trans _ _ _ (by omega) h4⟩
    ·
     left; omega
   ·
    left; omega
def firstB (o : Option (Int × List Int)) (c : Int × List Int) : Bool := match o with | none => true | some y => beforeB c y
theorem bestS_eq (holds : Int × List Int → Bool) (o : Option (Int × List Int)) (c : Int × List Int) : bestS holds o c = if (firstB o c && holds c) = true then some c else o := rfl
theorem best_spec (holds : Int × List Int → Bool) : ∀ (cs : List (Int × List Int)) (o : Option (Int × List Int)), (∀ y, o = some y → holds y = true) →
  match cs.foldl (bestS holds) o with
  | none => o = none ∧ ∀ x ∈ cs, holds x = false
  | some y => holds y = true ∧ (o = some y ∨ y ∈ cs) ∧ (∀ x ∈ cs, holds x = true → beforeB x y = false) ∧ ∀ z, o = some z → beforeB z y = false
 | [], o, ho => by
  cases o with
  | none => exact ⟨rfl, fun x hx => by simp at hx⟩
  | some y => exact ⟨ho y rfl, .inl rfl, fun x hx => by simp at hx, fun z hz => by
    obtain rfl := Option.some.inj hz
    cases hb : beforeB y y with
    | false => rfl
    | true =>
     rw [before_iff] at hb
     have := cmpL_flip y.2 y.2
     omega⟩
 | c :: cs, o, ho => by
  rw [List.foldl_cons]
  have hself : ∀ y, beforeB y y = false := fun y => by
   cases hb : beforeB y y with
   | false => rfl
   | true =>
    rw [before_iff] at hb
    have := cmpL_flip y.2 y.2
    omega
  by_cases h : (firstB o c && holds c) = true
  ·
   have e : bestS holds o c = some c := by rw [bestS_eq, if_pos h]
   have hc : holds c = true := (Bool.and_eq_true_iff.1 h).2
   have ih := best_spec holds cs (some c) (fun y hy => by obtain rfl := Option.some.inj hy; exact hc)
   rw [e]
   cases hr : cs.foldl (bestS holds) (some c) with
   | none => rw [hr] at ih; exact absurd ih.1 (by simp)
   | some y =>
    rw [hr] at ih
    obtain ⟨i1, i2, i3, i4⟩ := ih
    refine ⟨i1, .inr ?_, fun x hx hxh => ?_, fun z hz => ?_⟩
    ·
     rcases i2 with i2 | i2
     ·
      obtain rfl := Option.some.inj i2; simp
     ·
      simp [i2]
    ·
     rcases List.mem_cons.1 hx with rfl | hx
     ·
      exact i4 x rfl
     ·
      exact i3 x hx hxh
    ·
     subst hz
     have hcz : beforeB c z = true := (Bool.and_eq_true_iff.1 h).1
     have hcy := i4 c rfl
     cases hzy : beforeB z y with
     | false => rfl
     | true =>
      exfalso
      have hzc : beforeB z c = false := by
       cases hq : beforeB z c with
       | false => rfl
       | true =>
        rw [before_iff] at hq hcz
        have := cmpL_flip z.2 c.2
        omega
      have := before_trans c z y hzc hzy
      rw [this] at hcy
      cases hcy
  ·
   have e : bestS holds o c = o := by rw [bestS_eq, if_neg h]
   have ih := best_spec holds cs o ho
   rw [e]
   cases hr : cs.foldl (bestS holds) o with
   | none =>
    rw [hr] at ih
    refine ⟨ih.1, fun x hx => ?_⟩
    rcases List.mem_cons.1 hx with rfl | hx
    ·
     rw [ih.1] at h
     simpa [firstB] using h
    ·
     exact ih.2 x hx
   | some y =>
    rw [hr] at ih
    obtain ⟨i1, i2, i3, i4⟩ := ih
    refine ⟨i1, i2.imp id (fun h => by simp [h]), fun x hx hxh => ?_, i4⟩
    rcases List.mem_cons.1 hx with rfl | hx
    ·
     cases o with
     | none =>
      rw [hxh] at h
      simp [firstB] at h
     | some z =>
      rw [hxh, Bool.and_true] at h
      have hxz : beforeB x z = false := by simpa [firstB] using h
      have hzy := i4 z rfl
      cases hq : beforeB x y with
      | false => rfl
      | true =>
       have := before_trans z x y hxz hq
       rw [this] at hzy
       cases hzy
    ·
     exact i3 x hx hxh
end Go.Proofs.Ytafkanmioinbiaa.SA
namespace Go.Proofs.Ytafkanmioinbiaa.SA
open Go.RowKit Go.Proofs.YtafkanmioinbiaaW.PrintWords Go.Proofs.YtafkanmioinbiaaW.PrintLast Go.Proofs.YtafkanmioinbiaaW.PrintMore
attribute [local go_sem] qbc qbe max_two min_two qaz qba qbd qbf
def talikref07_Cost.l0 : Nat → List Int → Int → Int → Int → List (S44) → List Int → List Int → List (S41) → List (S95) → Option (Int)
 | 0, _, _, _, _, _, _, _, _, _ => none
 | k + 1, x1, x5, x6, x359000, x359001, x359002, x359003, x359004, x359005 => if x6 < (x1.length : Int) then (if 0 ≤ x6 then (if 0 ≤ (rd x1 x6) then (if (rd x1 x6) < (x359001.length : Int) then (talikref07_Cost.l0 k x1 (wrap64 (x5 + ((qax x359001 (rd x1 x6)).f3))) (wrap64 (x6 + 1)) x359000 x359001 x359002 x359003 x359004 x359005) else (none)) else (none)) else (none)) else (some x5)
def talikref07_Cost.f (k : Nat) (a0_0 : Int) (l0_1 : List (S44)) (l0_2 : List Int) (l0_3 : List Int) (l0_4 : List (S41)) (l0_5 : List (S95)) (l1 : List Int) : Option (Int) := talikref07_Cost.l0 k l1 0 0 a0_0 l0_1 l0_2 l0_3 l0_4 l0_5
theorem talikref07_Cost.calls (k : Nat) (a0_0 : Int) (A0_1 : Option Addr) (c0_1 : Nat) (l0_1 : List (S44)) (A0_2 : Option Addr) (c0_2 : Nat) (l0_2 : List Int) (A0_3 : Option Addr) (c0_3 : Nat) (l0_3 : List Int) (A0_4 : Option Addr) (c0_4 : Nat) (l0_4 : List (S41)) (A0_5 : Option Addr) (c0_5 : Nat) (l0_5 : List (S95)) (A1 : Option Addr) (c1 : Nat) (l1 : List Int) (r : Int) (w : World) (hr0_1 : Kd.C k44 w A0_1 l0_1.length l0_1) (hc0_1 : l0_1.length ≤ c0_1) (hr0_2 : Kd.C (Kd.int .i64) w A0_2 l0_2.length l0_2) (hc0_2 : l0_2.length ≤ c0_2) (hr0_3 : Kd.C (Kd.int .i64) w A0_3 l0_3.length l0_3) (hc0_3 : l0_3.length ≤ c0_3) (hr0_4 : Kd.C k41 w A0_4 l0_4.length l0_4) (hc0_4 : l0_4.length ≤ c0_4) (hr0_5 : Kd.C k95 w A0_5 l0_5.length l0_5) (hc0_5 : l0_5.length ≤ c0_5) (hr1 : Kd.C (Kd.int .i64) w A1 l1.length l1) (hc1 : l1.length ≤ c1) (h : talikref07_Cost.f k a0_0 l0_1 l0_2 l0_3 l0_4 l0_5 l1 = some r) :
  Calls Try.prog 35 #[.agg #[.int .i64 a0_0, .slice A0_1 l0_1.length c0_1, .slice A0_2 l0_2.length c0_2, .slice A0_3 l0_3.length c0_3, .slice A0_4 l0_4.length c0_4, .slice A0_5 l0_5.length c0_5], .slice A1 l1.length c1] w fun e w' => e = .returned (.int .i64 r) ∧ Below w.heap.size w w' := by
 have hu27 := Try.underlying27
 have HR0_1 := qab.mk hr0_1
 have HC0_1 := qab.mk hc0_1
 clear hr0_1 hc0_1
 have HR0_2 := qab.mk hr0_2
 have HC0_2 := qab.mk hc0_2
 clear hr0_2 hc0_2
 have HR0_3 := qab.mk hr0_3
 have HC0_3 := qab.mk hc0_3
 clear hr0_3 hc0_3
 have HR0_4 := qab.mk hr0_4
 have HC0_4 := qab.mk hc0_4
 clear hr0_4 hc0_4
 have HR0_5 := qab.mk hr0_5
 have HC0_5 := qab.mk hc0_5
 clear hr0_5 hc0_5
 have HR1 := qab.mk hr1
 have HC1 := qab.mk hc1
 clear hr1 hc1
 have HB := qab.mk (Below.refl w.heap.size w)
 have H : (talikref07_Cost.l0 k l1 0 0 a0_0 l0_1 l0_2 l0_3 l0_4 l0_5) = some r := h
 clear h
 have H' := qab.mk H
 clear H
 go_enter Try.func35, Try.ntmps35
 go_wp2_with (first | ((with_reducible refine qaq (N := 2) rfl ?_); refine ze 2 #[.int .i64 a0_0, .slice A0_1 l0_1.length c0_1, .slice A0_2 l0_2.length c0_2, .slice A0_3 l0_3.length c0_3, .slice A0_4 l0_4.length c0_4, .slice A0_5 l0_5.length c0_5] 27 ?_; intro gb358 hg w3 hbox hb; have n0_ := qab.mk (qae (zb HB.out) hb); have n1_ := qab.mk (hbox); have n2_ := qab.mk ((by rw [hg]; exact (qaw (zb HB.out)) : w.heap.size ≤ gb358)); have n3_ := qab.mk ((by rw [hg]; exact (qaw (zb HB.out)) : w.heap.size ≤ gb358)); clear HB; have HB := n0_; have BK358 := n1_; have GW358 := n2_; have GE358 := n3_; clear n0_ n1_ n2_ n3_; clear hb hbox hg))
 repeat (go_quiet (first | ((with_reducible refine qaq (N := 2) rfl ?_); refine ze 2 #[.int .i64 a0_0, .slice A0_1 l0_1.length c0_1, .slice A0_2 l0_2.length c0_2, .slice A0_3 l0_3.length c0_3, .slice A0_4 l0_4.length c0_4, .slice A0_5 l0_5.length c0_5] 27 ?_; intro gb358 hg w3 hbox hb; have n0_ := qab.mk (qae (zb HB.out) hb); have n1_ := qab.mk (hbox); have n2_ := qab.mk ((by rw [hg]; exact (qaw (zb HB.out)) : w.heap.size ≤ gb358)); have n3_ := qab.mk ((by rw [hg]; exact (qaw (zb HB.out)) : w.heap.size ≤ gb358)); clear HB; have HB := n0_; have BK358 := n1_; have GW358 := n2_; have GE358 := n3_; clear n0_ n1_ n2_ n3_; clear hb hbox hg)); try go_wp2_with (first | ((with_reducible refine qaq (N := 2) rfl ?_); refine ze 2 #[.int .i64 a0_0, .slice A0_1 l0_1.length c0_1, .slice A0_2 l0_2.length c0_2, .slice A0_3 l0_3.length c0_3, .slice A0_4 l0_4.length c0_4, .slice A0_5 l0_5.length c0_5] 27 ?_; intro gb358 hg w3 hbox hb; have n0_ := qab.mk (qae (zb HB.out) hb); have n1_ := qab.mk (hbox); have n2_ := qab.mk ((by rw [hg]; exact (qaw (zb HB.out)) : w.heap.size ≤ gb358)); have n3_ := qab.mk ((by rw [hg]; exact (qaw (zb HB.out)) : w.heap.size ≤ gb358)); clear HB; have HB := n0_; have BK358 := n1_; have GW358 := n2_; have GE358 := n3_; clear n0_ n1_ n2_ n3_; clear hb hbox hg)))
 go_loopg [5, 6] k (fun kq v5 v6 w' => ∃ (x5_1 : Int) (x6_1 : Int), v5 = .int .i64 x5_1 ∧ v6 = .int .i64 x6_1 ∧ qab (talikref07_Cost.l0 kq l1 x5_1 x6_1 a0_0 l0_1 l0_2 l0_3 l0_4 l0_5 = some r) ∧ qab (kq ≤ k) ∧ qab (w'.heap[gb358]? = some (.cells #[.int .i64 a0_0, (.slice A0_1 l0_1.length c0_1), (.slice A0_2 l0_2.length c0_2), (.slice A0_3 l0_3.length c0_3), (.slice A0_4 l0_4.length c0_4), (.slice A0_5 l0_5.length c0_5)] 27 (0, 0))) ∧ qab (Below w.heap.size w w'))
 case atStart => exact ⟨(0), (0), (by first | rfl | (simp; done) | (simp [*]; done)), (by first | rfl | (simp; done) | (simp [*]; done)), H', ⟨Nat.le_refl _⟩, ⟨zj BK358.out⟩, ⟨by repeat (first | (with_reducible first | exact HB.out | apply qag | apply qaf | apply qah | refine qaj ?_ GE358.out) | exact HB.out)⟩⟩
 case round =>
  clear H'
  try clear c1
  try clear p2
  try clear c3
  obtain ⟨x5_1, x6_1, rfl, rfl, HA, HK1, BK358, HB⟩ := hrel
  cases gk with
  | zero => exact absurd HA.out (by simp [talikref07_Cost.l0])
  | succ k1 =>
   have H := HA.out
   clear HA
   simp only [talikref07_Cost.l0] at H
   by_cases c4 : x6_1 < (l1.length : Int)
   ·
    rw [if_pos c4] at H
    have c4b0 : decide (x6_1 < (l1.length : Int)) = true := decide_eq_true c4
    clear c4
    by_cases c5 : 0 ≤ x6_1
    ·
     rw [if_pos c5] at H
     have c5b0 : decide (0 ≤ x6_1) = true := decide_eq_true c5
     clear c5
     by_cases c6 : 0 ≤ (rd l1 x6_1)
     ·
      rw [if_pos c6] at H
      have c6b0 : decide (0 ≤ (rd l1 x6_1)) = true := decide_eq_true c6
      clear c6
      by_cases c7 : (rd l1 x6_1) < (l0_1.length : Int)
      ·
       rw [if_pos c7] at H
       have c7b0 : decide ((rd l1 x6_1) < (l0_1.length : Int)) = true := decide_eq_true c7
       clear c7
       have H' := qab.mk H
       clear H
       obtain ⟨hfz_, hcz8_0, hcz8_1, hcz8_2, hcz8_3, hcz8_4, hcz8_5⟩ := qz6 BK358.out
       have p359 : 0 ≤ (x6_1 : Int) := of_decide_eq_true (by first | (with_reducible assumption) | assumption)
       have q359 : x6_1 < (l1.length : Int) := of_decide_eq_true (by first | (with_reducible assumption) | assumption)
       obtain ⟨ad359, e359, hx359_0⟩ := Kd.at_int HR1.out x6_1 p359 q359
       cases e359
       replace hx359_0 := (HB.out.cell (World.block_lt_of_cell? w _ hx359_0)).trans hx359_0
       replace p359 := eq_true p359
       replace q359 := eq_true q359
       have p360 : 0 ≤ ((rd l1 x6_1) : Int) := of_decide_eq_true (by first | (with_reducible assumption) | assumption)
       have q360 : (rd l1 x6_1) < (l0_1.length : Int) := of_decide_eq_true (by first | (with_reducible assumption) | assumption)
       obtain ⟨ad360, e360, hx360_0, hx360_1, hx360_2, hx360_3⟩ := at_T44 HR0_1.out (rd l1 x6_1) p360 q360
       cases e360
       replace hx360_0 := (HB.out.cell (World.block_lt_of_cell? w _ hx360_0)).trans hx360_0
       replace hx360_1 := (HB.out.cell (World.block_lt_of_cell? w _ hx360_1)).trans hx360_1
       replace hx360_2 := (HB.out.cell (World.block_lt_of_cell? w _ hx360_2)).trans hx360_2
       replace hx360_3 := (HB.out.cell (World.block_lt_of_cell? w _ hx360_3)).trans hx360_3
       replace p360 := eq_true p360
       replace q360 := eq_true q360
       go_wp2
       repeat (go_quiet (fail); try go_wp2)
       go_roundg k1
       case measure => have := HK1.out; omega
       case rel => exact ⟨(wrap64 (x5_1 + ((qax l0_1 (rd l1 x6_1)).f3))), (wrap64 (x6_1 + 1)), (by first | rfl | (simp; done) | (simp [*]; done)), (by first | rfl | (simp; done) | (simp [*]; done)), H', ⟨by have := HK1.out; omega⟩, ⟨zj BK358.out⟩, ⟨by repeat (first | (with_reducible first | exact HB.out | apply qag | apply qaf | apply qah | refine qaj ?_ GE358.out) | exact HB.out)⟩⟩
      ·
       rw [if_neg c7] at H
       exact absurd H (by simp)
     ·
      rw [if_neg c6] at H
      exact absurd H (by simp)
    ·
     rw [if_neg c5] at H
     exact absurd H (by simp)
   ·
    rw [if_neg c4] at H
    have c4b0 : decide (x6_1 < (l1.length : Int)) = false := decide_eq_false c4
    clear c4
    obtain rfl := Option.some.inj H
    go_wp2
    repeat (go_quiet (fail); try go_wp2)
    go_ret
    exact ⟨by first | rfl | (simp [qat, qau] <;> rfl) | (simp [*, qat, qau] <;> rfl), by repeat (first | (with_reducible first | exact HB.out | apply qag | apply qaf | apply qah | refine qaj ?_ GE358.out) | exact HB.out)⟩
end Go.Proofs.Ytafkanmioinbiaa.SA
