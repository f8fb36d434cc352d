/- What functions of the program answer. No condition. -/
import Derived.Test.YtafkanmioinbiaaSC
import Derived.Test.YtafkanmioinbiaaSD
import Derived.Test.YtafkanmioinbiaaFoA
import Derived.Test.YtafkanmioinbiaaFoB
set_option linter.all false
set_option maxRecDepth 100000
set_option maxHeartbeats 8000000
namespace Go.Proofs.Ytafkanmioinbiaa.SA
open Go.RowKit Go.Proofs.YtafkanmioinbiaaW.PrintWords Go.Proofs.YtafkanmioinbiaaW.PrintLast Go.Proofs.YtafkanmioinbiaaW.PrintMore
attribute [local go_sem] qax qaz max_two min_two qao qap qay qba
def talikref07_Leads.f (a0_0 : Int) (l0_1 : List (S44)) (l0_2 : List Int) (l0_3 : List Int) (l0_4 : List (S41)) (l0_5 : List (S95)) (l1 : List Int) (a2 : Int) : Option (Bool) := some (leadsB l0_1 l0_2 l1 a2)
theorem talikref07_Leads.calls (a0_0 : Int) (A0_1 : Option Addr) (c0_1 : Nat) (l0_1 : List (S44)) (A0_2 : Option Addr) (c0_2 : Nat) (l0_2 : List Int) (A0_3 : Option Addr) (c0_3 : Nat) (l0_3 : List Int) (A0_4 : Option Addr) (c0_4 : Nat) (l0_4 : List (S41)) (A0_5 : Option Addr) (c0_5 : Nat) (l0_5 : List (S95)) (A1 : Option Addr) (c1 : Nat) (l1 : List Int) (a2 : Int) (r : Bool) (w : World) (hr0_1 : Kd.C k44 w A0_1 l0_1.length l0_1) (hc0_1 : l0_1.length ≤ c0_1) (hr0_2 : Kd.C (Kd.int .i64) w A0_2 l0_2.length l0_2) (hc0_2 : l0_2.length ≤ c0_2) (hr0_3 : Kd.C (Kd.int .i64) w A0_3 l0_3.length l0_3) (hc0_3 : l0_3.length ≤ c0_3) (hr0_4 : Kd.C k41 w A0_4 l0_4.length l0_4) (hc0_4 : l0_4.length ≤ c0_4) (hr0_5 : Kd.C k95 w A0_5 l0_5.length l0_5) (hc0_5 : l0_5.length ≤ c0_5) (hr1 : Kd.C (Kd.int .i64) w A1 l1.length l1) (hc1 : l1.length ≤ c1) (h : talikref07_Leads.f a0_0 l0_1 l0_2 l0_3 l0_4 l0_5 l1 a2 = some r) :
  Calls Try.prog 30 #[.agg #[.int .i64 a0_0, .slice A0_1 l0_1.length c0_1, .slice A0_2 l0_2.length c0_2, .slice A0_3 l0_3.length c0_3, .slice A0_4 l0_4.length c0_4, .slice A0_5 l0_5.length c0_5], .slice A1 l1.length c1, .int .i64 a2] w fun e w' => e = .returned (.bool r) ∧ Below w.heap.size w w' := by
 obtain rfl := Option.some.inj h
 clear h
 have hu27 := Try.underlying27
 have hu44 := Try.underlying44
 have m0 := Kd.C_max hr1
 have m1 := Kd.C_max hr0_1
 have HR := qab.mk hr1
 have HR1 := qab.mk hr0_1
 have HR2 := qab.mk hr0_2
 have HB := qab.mk (Below.refl w.heap.size w)
 obtain ⟨bb, hbb⟩ : ∃ b, wrap64 ((l0_1.length : Int) - 1) = b := ⟨_, rfl⟩
 have hbw : IntKind.i64.wrap ((l0_1.length : Int) - 1) = bb := (i64_w _).trans hbb
 have HBB : qab (bb = (l0_1.length : Int) - 1) := ⟨by rw [← hbb]; unfold wrap64; omega⟩
 clear hr0_1 hr0_2 hr0_3 hr0_4 hr0_5 hr1 hbb
 by_cases hl0 : l1.length = 0
 ·
  have hz : ((l1.length : Int) == 0) = true := by rw [beq_iff_eq]; omega
  have HV : qab (leadsB l0_1 l0_2 l1 a2 = l0_2.contains a2) := ⟨by unfold leadsB; rw [if_pos hl0]⟩
  have HHS : qab (∀ W, Below w.heap.size w W → Calls Try.prog 25 #[.slice A0_2 l0_2.length c0_2, .int .i64 a2] W fun e w' => e = .returned (.bool (l0_2.contains a2)) ∧ Below W.heap.size W w') := ⟨fun W hW => rhas_calls _ _ _ _ W (Kd.qai HR2.out hW) hc0_2⟩
  clear hl0
  generalize l0_2.contains a2 = cb at HHS HV
  go_enter Try.func30, Try.ntmps30
  go_wp2_with (first | ((with_reducible refine qam (N := 3) rfl ?_); refine ze 3 #[.int .i64 a0_0, .slice A0_1 l0_1.length c0_1, .slice A0_2 l0_2.length c0_2, .slice A0_3 l0_3.length c0_3, .slice A0_4 l0_4.length c0_4, .slice A0_5 l0_5.length c0_5] 27 ?_; intro gb hg_gb w2 hbox hb; have BKgb := qab.mk hbox; have n_HB := qab.mk (qae HB.out hb); have GEgb : w.heap.size ≤ gb := (by rw [hg_gb]; exact HB.out.size); clear HB; have HB := n_HB; clear n_HB; obtain ⟨hfgb, hcgb_0, hcgb_1, hcgb_2, hcgb_3, hcgb_4, hcgb_5⟩ := qz6 BKgb.out; clear hbox hb hg_gb) | (go_at_call 25; (with_reducible refine (HHS.out _ HB.out).mono ?_); rintro e wn ⟨rfl, hb⟩; replace HB := qab.mk (qae HB.out hb); clear hb))
  go_ret
  exact ⟨by rw [HV.out]; rfl, HB.out⟩
 ·
  have hz : ((l1.length : Int) == 0) = false := by rw [beq_eq_false_iff_ne]; omega
  go_enter Try.func30, Try.ntmps30
  go_wp2_with ((with_reducible refine qam (N := 3) rfl ?_); refine ze 3 #[.int .i64 a0_0, .slice A0_1 l0_1.length c0_1, .slice A0_2 l0_2.length c0_2, .slice A0_3 l0_3.length c0_3, .slice A0_4 l0_4.length c0_4, .slice A0_5 l0_5.length c0_5] 27 ?_; intro gb hg_gb w2 hbox hb; have BKgb := qab.mk hbox; have n_HB := qab.mk (qae HB.out hb); have GEgb : w.heap.size ≤ gb := (by rw [hg_gb]; exact HB.out.size); clear HB; have HB := n_HB; clear n_HB; obtain ⟨hfgb, hcgb_0, hcgb_1, hcgb_2, hcgb_3, hcgb_4, hcgb_5⟩ := qz6 BKgb.out; clear hbox hb hg_gb)
  clear hz hfgb hcgb_0 hcgb_1 hcgb_2 hcgb_3 hcgb_4 hcgb_5
  go_loopw [7] (fun s7 wr => ∃ i : Nat, i ≤ l1.length ∧ s7 = .int .i64 i ∧ qab (∀ j : Nat, j < i → ldAt l0_1 l0_2 l1 j = true) ∧ qab (wr.heap[gb]? = some (.cells #[.int .i64 a0_0, .slice A0_1 l0_1.length c0_1, .slice A0_2 l0_2.length c0_2, .slice A0_3 l0_3.length c0_3, .slice A0_4 l0_4.length c0_4, .slice A0_5 l0_5.length c0_5] 27 (0, 0))) ∧ qab (Below w.heap.size w wr)) (fun s _ => l1.length - (intOf s).toNat)
  case atStart => exact ⟨0, by omega, rfl, ⟨fun j h1 => by omega⟩, BKgb, HB⟩
  case round =>
   clear BKgb HB
   obtain ⟨i, hi1, rfl, HN, BKgb, HB⟩ := hrel
   by_cases hlt : i < l1.length
   ·
    obtain ⟨ad, e, t1⟩ := Kd.at_int HR.out i (by omega) (by omega)
    cases e
    simp only [Int.toNat_natCast] at t1
    replace t1 := (HB.out.cell (World.block_lt_of_cell? w _ t1)).trans t1
    obtain ⟨x, hx⟩ : ∃ x, x = rd l1 i := ⟨_, rfl⟩
    rw [← hx] at t1
    have HX := qab.mk hx
    have hin := rin_calls x 0 bb
    have HA : qab (ldAt l0_1 l0_2 l1 i = (inB x 0 bb && (if i = 0 then l0_2.contains (ldE l0_1 l1 i).f0 else decide ((ldE l0_1 l1 (i - 1)).f1 = (ldE l0_1 l1 i).f0)))) := ⟨by unfold ldAt; rw [← hx, HBB.out]⟩
    clear hx
    go_upto_region 6 with fail
    cases hib : inB x 0 bb with
    | false =>
     rw [hib] at hin
     have HIN := qab.mk hin
     have T1 := qab.mk t1
     have HV : qab (leadsB l0_1 l0_2 l1 a2 = false) := ⟨leadsB_bad i hlt (by rw [HA.out, hib]; rfl)⟩
     clear t1 hin hib
     have HT : qab (∀ W, Below wr.heap.size wr W → (W.cell? (ad.add i) = some (.int .i64 x) ∧ W.cell? ⟨gb, 1, none⟩ = some (.slice A0_1 l0_1.length c0_1) ∧ qab (Below wr.heap.size wr W))) := ⟨fun W h => ⟨(h.cell (World.block_lt_of_cell? wr _ T1.out)).trans T1.out, (qaa (qad BKgb.out h) 1).trans rfl, ⟨h⟩⟩⟩
     refine start_ (n := 10) (S := (fun w' => (w'.cell? (ad.add i) = some (.int .i64 x) ∧ w'.cell? ⟨gb, 1, none⟩ = some (.slice A0_1 l0_1.length c0_1) ∧ qab (Below wr.heap.size wr w')))) (ds := []) (msk 10 0) (by kernel_rfl) rfl rfl (HT.out _ (qaq (Below.refl _ _))) (fun hHeld => ?_)
     refine zq 0 1 22 ?_
     refine zq 1 2 23 ?_
     refine zq 2 3 24 ?_
     refine zt3 3 4 25 hHeld ?_
     refine zq 4 5 26 ?_
     refine zt3 5 6 27 hHeld ?_
     refine zq 6 7 28 ?_
     refine zq 7 8 29 ?_
     refine one_ (i := 8) (N := some 30) (msk 10 9) rfl rfl (by kernel_rfl) (by decide) (fun K hK => ?_)
     refine zg Try.func57 #[.int .i64 x, .int .i64 0, .int .i64 bb] ?_
     refine (HIN.out _).mono ?_; rintro e w6 ⟨rfl, hb⟩; have HP6 := qab.mk (HT.out w6 (qae hHeld.2.2.out hb)); clear hb; refine ⟨_, rfl, ?_⟩; refine hK.out _ _ HP6.out (fun hHeld => ?_); clear hK K; refine zn 30 ?_
     refine zq 9 10 31 ?_
     refine done_ (by kernel_rfl) ?_
     clear hHeld
     replace HB := qab.mk (qae HB.out HP6.out.2.2.out)
     replace BKgb := qab.mk (qad BKgb.out HP6.out.2.2.out)
     go_wp2
     go_ret
     exact ⟨by rw [HV.out]; rfl, HB.out⟩
    | true =>
     have h01 : 0 ≤ x ∧ x < l0_1.length := by
      have h1 := HBB.out
      unfold inB at hib
      simp only [Bool.and_eq_true, decide_eq_true_eq] at hib
      omega
     rw [hib, Bool.true_and] at HA
     rw [hib] at hin
     obtain ⟨n, rfl⟩ := Int.eq_ofNat_of_zero_le h01.1
     have hn : n < l0_1.length := by omega
     have HIN := qab.mk hin
     have T1 := qab.mk t1
     clear hin t1 hib h01
     obtain ⟨a1, e, t3, _, _, _⟩ := at_T44 HR1.out n (by omega) (by omega)
     cases e
     simp only [Int.toNat_natCast] at t3
     replace t3 := (HB.out.cell (World.block_lt_of_cell? w _ t3)).trans t3
     obtain ⟨e0, he0⟩ : ∃ c, c = (qav l0_1 n).f0 := ⟨_, rfl⟩
     rw [← he0] at t3
     have T3 := qab.mk t3
     have HE0 : qab ((ldE l0_1 l1 i).f0 = e0) := ⟨by unfold ldE; rw [← HX.out, he0]⟩
     rw [HE0.out] at HA
     clear t3 he0
     have HT : qab (∀ W, Below wr.heap.size wr W → (W.cell? (ad.add i) = some (.int .i64 (n : Int)) ∧ W.cell? ⟨gb, 1, none⟩ = some (.slice (some a1) l0_1.length c0_1) ∧ qab (Below wr.heap.size wr W))) := ⟨fun W h => ⟨(h.cell (World.block_lt_of_cell? wr _ T1.out)).trans T1.out, (qaa (qad BKgb.out h) 1).trans rfl, ⟨h⟩⟩⟩
     refine start_ (n := 10) (S := (fun w' => (w'.cell? (ad.add i) = some (.int .i64 (n : Int)) ∧ w'.cell? ⟨gb, 1, none⟩ = some (.slice (some a1) l0_1.length c0_1) ∧ qab (Below wr.heap.size wr w')))) (ds := []) (msk 10 0) (by kernel_rfl) rfl rfl (HT.out _ (qaq (Below.refl _ _))) (fun hHeld => ?_)
     refine zq 0 1 22 ?_
     refine zq 1 2 23 ?_
     refine zq 2 3 24 ?_
     refine zt3 3 4 25 hHeld ?_
     refine zq 4 5 26 ?_
     refine zt3 5 6 27 hHeld ?_
     refine zq 6 7 28 ?_
     refine zq 7 8 29 ?_
     refine one_ (i := 8) (N := some 30) (msk 10 9) rfl rfl (by kernel_rfl) (by decide) (fun K hK => ?_)
     refine zg Try.func57 #[.int .i64 (n : Int), .int .i64 0, .int .i64 bb] ?_
     refine (HIN.out _).mono ?_; rintro e w6 ⟨rfl, hb⟩; have HP6 := qab.mk (HT.out w6 (qae hHeld.2.2.out hb)); clear hb; refine ⟨_, rfl, ?_⟩; refine hK.out _ _ HP6.out (fun hHeld => ?_); clear hK K; refine zn 30 ?_
     refine zq 9 10 31 ?_
     refine done_ (by kernel_rfl) ?_
     clear hHeld
     replace HB := qab.mk (qae HB.out HP6.out.2.2.out)
     replace BKgb := qab.mk (qad BKgb.out HP6.out.2.2.out)
     go_upto_region 8 with fail
     have t1 := T1.out
     have t3 := T3.out
     clear T1 T3
     replace t1 := (Below.cell HP6.out.2.2.out (World.block_lt_of_cell? _ _ t1)).trans t1; replace t3 := (Below.cell HP6.out.2.2.out (World.block_lt_of_cell? _ _ t3)).trans t3
     have T1 := qab.mk t1
     have T3 := qab.mk t3
     clear t1 t3 HP6
     have HT : qab (∀ W, Below w6.heap.size w6 W → (W.cell? (ad.add i) = some (.int .i64 (n : Int)) ∧ W.cell? ⟨gb, 1, none⟩ = some (.slice (some a1) l0_1.length c0_1) ∧ W.cell? (a1.add (n * 4)) = some (.int .i64 e0) ∧ qab (Below w6.heap.size w6 W))) := ⟨fun W h => ⟨(h.cell (World.block_lt_of_cell? w6 _ T1.out)).trans T1.out, (qaa (qad BKgb.out h) 1).trans rfl, (h.cell (World.block_lt_of_cell? w6 _ T3.out)).trans T3.out, ⟨h⟩⟩⟩
     refine start_ (n := 10) (S := (fun w' => (w'.cell? (ad.add i) = some (.int .i64 (n : Int)) ∧ w'.cell? ⟨gb, 1, none⟩ = some (.slice (some a1) l0_1.length c0_1) ∧ w'.cell? (a1.add (n * 4)) = some (.int .i64 e0) ∧ qab (Below w6.heap.size w6 w')))) (ds := []) (msk 10 0) (by kernel_rfl) rfl rfl (HT.out _ (qaq (Below.refl _ _))) (fun hHeld => ?_)
     have HP7 := qab.mk hHeld
     refine zq 0 1 32 ?_
     refine zt4 1 2 33 hHeld ?_
     refine zq 2 3 34 ?_
     refine zq 3 4 35 ?_
     refine zq 4 5 36 ?_
     refine zt4 5 6 37 hHeld ?_
     refine zq 6 7 38 ?_
     refine zq 7 8 39 ?_
     refine zt4 8 9 40 hHeld ?_
     refine zq 9 10 8 ?_
     refine done_ (by kernel_rfl) ?_
     clear hHeld
     replace HB := qab.mk (qae HB.out HP7.out.2.2.2.out)
     replace BKgb := qab.mk (qad BKgb.out HP7.out.2.2.2.out)
     go_upto_region 9 with fail
     rcases Nat.eq_zero_or_pos i with hi0 | hi0
     ·
      rw [if_pos hi0] at HA
      have hk0 : ((i : Int) == 0) = true := by simp; omega
      have hk1 : decide (0 < (i : Int)) = false := decide_eq_false (by omega)
      have hk2 : decide (0 < i) = false := decide_eq_false (by omega)
      have hk3 : (i == 0) = true := by simp; omega
      clear hi0
      have HHS : qab (∀ W, Below w.heap.size w W → Calls Try.prog 25 #[.slice A0_2 l0_2.length c0_2, .int .i64 e0] W fun e w' => e = .returned (.bool (l0_2.contains e0)) ∧ Below W.heap.size W w') := ⟨fun W hW => rhas_calls _ _ _ _ W (Kd.qai HR2.out hW) hc0_2⟩
      obtain ⟨cb, hcb⟩ : ∃ b, b = l0_2.contains e0 := ⟨_, rfl⟩
      rw [← hcb] at HHS HA
      clear hcb
      cases cb with
      | false =>
       have HV : qab (leadsB l0_1 l0_2 l1 a2 = false) := ⟨leadsB_bad i hlt HA.out⟩
       have HT : qab (∀ W, Below w6.drew.heap.size w6.drew W → (W.cell? ⟨gb, 2, none⟩ = some (.slice A0_2 l0_2.length c0_2) ∧ qab (Below w6.drew.heap.size w6.drew W))) := ⟨fun W h => ⟨(qaa (qad BKgb.out h) 2).trans rfl, ⟨h⟩⟩⟩
       refine start_ (n := 27) (S := (fun w' => (w'.cell? ⟨gb, 2, none⟩ = some (.slice A0_2 l0_2.length c0_2) ∧ qab (Below w6.drew.heap.size w6.drew w')))) (ds := []) (msk 27 0) (by kernel_rfl) rfl rfl (HT.out _ (qaq (Below.refl _ _))) (fun hHeld => ?_)
       refine zq 0 1 41 ?_
       refine zq 1 2 42 ?_
       refine zq 2 3 43 ?_
       refine zq 3 4 44 ?_
       refine zt2 4 5 45 hHeld ?_
       refine zq 5 6 46 ?_
       refine one_ (i := 6) (N := some 47) (msk 27 7) rfl rfl (by kernel_rfl) (by decide) (fun K hK => ?_)
       refine zg Try.func25 #[.slice A0_2 l0_2.length c0_2, .int .i64 e0] ?_
       refine (HHS.out _ (qae HB.out hHeld.2.out)).mono ?_; rintro e w8 ⟨rfl, hb⟩; have HP8 := qab.mk (HT.out w8 (qae hHeld.2.out hb)); clear hb; refine ⟨_, rfl, ?_⟩; refine hK.out _ _ HP8.out (fun hHeld => ?_); clear hK K; refine zn 47 ?_
       refine zq 7 8 48 ?_
       refine zq 8 9 49 ?_
       refine zq 9 10 50 ?_
       refine zo 10 11 51 ?_
       refine zo 11 12 52 ?_
       refine zo 12 13 53 ?_
       refine zo 13 14 54 ?_
       refine zo 14 15 55 ?_
       refine zo 15 16 56 ?_
       refine zo 16 17 57 ?_
       refine zo 17 18 58 ?_
       refine zo 18 19 59 ?_
       refine zo 19 20 60 ?_
       refine zo 20 21 61 ?_
       refine zo 21 22 62 ?_
       refine zo 22 23 63 ?_
       refine zo 23 24 64 ?_
       refine zo 24 25 65 ?_
       refine zo 25 26 66 ?_
       refine zq 26 27 67 ?_
       refine done_ (by kernel_rfl) ?_
       clear hHeld
       replace HB := qab.mk (qae HB.out HP8.out.2.out)
       replace BKgb := qab.mk (qad BKgb.out HP8.out.2.out)
       go_wp2
       go_ret
       exact ⟨by rw [HV.out]; rfl, HB.out⟩
      | true =>
       have HV := HA
       have HT : qab (∀ W, Below w6.drew.heap.size w6.drew W → (W.cell? ⟨gb, 2, none⟩ = some (.slice A0_2 l0_2.length c0_2) ∧ qab (Below w6.drew.heap.size w6.drew W))) := ⟨fun W h => ⟨(qaa (qad BKgb.out h) 2).trans rfl, ⟨h⟩⟩⟩
       refine start_ (n := 27) (S := (fun w' => (w'.cell? ⟨gb, 2, none⟩ = some (.slice A0_2 l0_2.length c0_2) ∧ qab (Below w6.drew.heap.size w6.drew w')))) (ds := []) (msk 27 0) (by kernel_rfl) rfl rfl (HT.out _ (qaq (Below.refl _ _))) (fun hHeld => ?_)
       refine zq 0 1 41 ?_
       refine zq 1 2 42 ?_
       refine zq 2 3 43 ?_
       refine zq 3 4 44 ?_
       refine zt2 4 5 45 hHeld ?_
       refine zq 5 6 46 ?_
       refine one_ (i := 6) (N := some 47) (msk 27 7) rfl rfl (by kernel_rfl) (by decide) (fun K hK => ?_)
       refine zg Try.func25 #[.slice A0_2 l0_2.length c0_2, .int .i64 e0] ?_
       refine (HHS.out _ (qae HB.out hHeld.2.out)).mono ?_; rintro e w8 ⟨rfl, hb⟩; have HP8 := qab.mk (HT.out w8 (qae hHeld.2.out hb)); clear hb; refine ⟨_, rfl, ?_⟩; refine hK.out _ _ HP8.out (fun hHeld => ?_); clear hK K; refine zn 47 ?_
       refine zq 7 8 48 ?_
       refine zq 8 9 49 ?_
       refine zq 9 10 50 ?_
       refine zq 10 11 51 ?_
       refine zq 11 12 52 ?_
       refine zq 12 13 53 ?_
       refine zo 13 14 54 ?_
       refine zo 14 15 55 ?_
       refine zo 15 16 56 ?_
       refine zo 16 17 57 ?_
       refine zo 17 18 58 ?_
       refine zo 18 19 59 ?_
       refine zo 19 20 60 ?_
       refine zo 20 21 61 ?_
       refine zo 21 22 62 ?_
       refine zo 22 23 63 ?_
       refine zo 23 24 64 ?_
       refine zo 24 25 65 ?_
       refine zq 25 26 66 ?_
       refine zq 26 27 67 ?_
       refine done_ (by kernel_rfl) ?_
       clear hHeld
       replace HB := qab.mk (qae HB.out HP8.out.2.out)
       replace BKgb := qab.mk (qad BKgb.out HP8.out.2.out)
       go_wp2
       go_roundw
       case rel => exact ⟨i + 1, by omega, by go_num, ⟨fun k hk => by
        rcases Nat.lt_or_ge k i with h | h
        ·
         exact HN.out k h
        ·
         obtain rfl : k = i := by omega
         exact HV.out⟩, BKgb, HB⟩
       case measure => simp [intOf]; omega
     ·
      obtain ⟨j, hj⟩ : ∃ j, i = j + 1 := ⟨i - 1, by omega⟩
      rw [if_neg (by omega)] at HA
      have hrj := ldAt_rng (HN.out j (by omega))
      obtain ⟨_, e, t2⟩ := Kd.at_int HR.out j (by omega) (by omega)
      cases e
      obtain ⟨m, hm⟩ := Int.eq_ofNat_of_zero_le hrj.1
      have hm1 : m < l0_1.length := by omega
      obtain ⟨_, e, _, t4, _, _⟩ := at_T44 HR1.out m (by omega) (by omega)
      cases e
      simp only [Int.toNat_natCast] at t2 t4
      rw [hm] at t2
      replace t2 := (HB.out.cell (World.block_lt_of_cell? w _ t2)).trans t2; replace t4 := (HB.out.cell (World.block_lt_of_cell? w _ t4)).trans t4
      obtain ⟨e1, he1⟩ : ∃ c, c = (qav l0_1 m).f1 := ⟨_, rfl⟩
      rw [← he1] at t4
      have T2 := qab.mk t2
      have T4 := qab.mk t4
      have HA2 : qab (ldAt l0_1 l0_2 l1 i = decide (e1 = e0)) := ⟨by rw [HA.out, hj]; unfold ldE; rw [show j + 1 - 1 = j from rfl, hm, he1]⟩
      have hj1 : IntKind.i64.wrap ((i : Int) - 1) = (j : Int) := by rw [i64_w]; unfold wrap64; omega
      have hk0 : ((i : Int) == 0) = false := by simp; omega
      have hk1 : decide (0 < (i : Int)) = true := decide_eq_true (by omega)
      have hk2 : decide (0 < i) = true := decide_eq_true (by omega)
      have hk3 : (i == 0) = false := by simp; omega
      have hjl : j < l1.length := by omega
      clear t2 t4 he1 hj hi0 HA hrj hm
      by_cases hee : e1 = e0
      ·
       have hd : (e1 != e0) = false := by simp [hee]
       have HV : qab (ldAt l0_1 l0_2 l1 i = true) := ⟨by rw [HA2.out]; exact decide_eq_true hee⟩
       clear hee HA2
       have HT : qab (∀ W, Below w6.drew.heap.size w6.drew W → (W.cell? ⟨gb, 1, none⟩ = some (.slice (some a1) l0_1.length c0_1) ∧ W.cell? (ad.add j) = some (.int .i64 (m : Int)) ∧ W.cell? ⟨(a1.add (m * 4)).block, (a1.add (m * 4)).off + 1, none⟩ = some (.int .i64 e1) ∧ qab (Below w6.drew.heap.size w6.drew W))) := ⟨fun W h => ⟨(qaa (qad BKgb.out h) 1).trans rfl, (h.cell (World.block_lt_of_cell? w6.drew _ T2.out)).trans T2.out, (h.cell (World.block_lt_of_cell? w6.drew _ T4.out)).trans T4.out, ⟨h⟩⟩⟩
       refine start_ (n := 27) (S := (fun w' => (w'.cell? ⟨gb, 1, none⟩ = some (.slice (some a1) l0_1.length c0_1) ∧ w'.cell? (ad.add j) = some (.int .i64 (m : Int)) ∧ w'.cell? ⟨(a1.add (m * 4)).block, (a1.add (m * 4)).off + 1, none⟩ = some (.int .i64 e1) ∧ qab (Below w6.drew.heap.size w6.drew w')))) (ds := []) (msk 27 0) (by kernel_rfl) rfl rfl (HT.out _ (qaq (Below.refl _ _))) (fun hHeld => ?_)
       have HP8 := qab.mk hHeld
       refine zq 0 1 41 ?_
       refine zq 1 2 42 ?_
       refine zq 2 3 43 ?_
       refine zo 3 4 44 ?_
       refine zo 4 5 45 ?_
       refine zo 5 6 46 ?_
       refine zo 6 7 47 ?_
       refine zo 7 8 48 ?_
       refine zq 8 9 49 ?_
       refine zq 9 10 50 ?_
       refine zq 10 11 51 ?_
       refine zq 11 12 52 ?_
       refine zq 12 13 53 ?_
       refine zq 13 14 54 ?_
       refine zt4 14 15 55 hHeld ?_
       refine zq 15 16 56 ?_
       refine zq 16 17 57 ?_
       refine zq 17 18 58 ?_
       refine zq 18 19 59 ?_
       refine zt4 19 20 60 hHeld ?_
       refine zq 20 21 61 ?_
       refine zq 21 22 62 ?_
       refine zt4 22 23 63 hHeld ?_
       refine zq 23 24 64 ?_
       refine zq 24 25 65 ?_
       refine zq 25 26 66 ?_
       refine zq 26 27 67 ?_
       refine done_ (by kernel_rfl) ?_
       clear hHeld
       replace HB := qab.mk (qae HB.out HP8.out.2.2.2.out)
       replace BKgb := qab.mk (qad BKgb.out HP8.out.2.2.2.out)
       go_wp2
       go_roundw
       case rel => exact ⟨i + 1, by omega, by go_num, ⟨fun k hk => by
        rcases Nat.lt_or_ge k i with h | h
        ·
         exact HN.out k h
        ·
         obtain rfl : k = i := by omega
         exact HV.out⟩, BKgb, HB⟩
       case measure => simp [intOf]; omega
      ·
       have hd : (e1 != e0) = true := by simp [hee]
       have HV : qab (leadsB l0_1 l0_2 l1 a2 = false) := ⟨leadsB_bad i hlt (by rw [HA2.out]; exact decide_eq_false hee)⟩
       clear hee HA2
       have HT : qab (∀ W, Below w6.drew.heap.size w6.drew W → (W.cell? ⟨gb, 1, none⟩ = some (.slice (some a1) l0_1.length c0_1) ∧ W.cell? (ad.add j) = some (.int .i64 (m : Int)) ∧ W.cell? ⟨(a1.add (m * 4)).block, (a1.add (m * 4)).off + 1, none⟩ = some (.int .i64 e1) ∧ qab (Below w6.drew.heap.size w6.drew W))) := ⟨fun W h => ⟨(qaa (qad BKgb.out h) 1).trans rfl, (h.cell (World.block_lt_of_cell? w6.drew _ T2.out)).trans T2.out, (h.cell (World.block_lt_of_cell? w6.drew _ T4.out)).trans T4.out, ⟨h⟩⟩⟩
       refine start_ (n := 27) (S := (fun w' => (w'.cell? ⟨gb, 1, none⟩ = some (.slice (some a1) l0_1.length c0_1) ∧ w'.cell? (ad.add j) = some (.int .i64 (m : Int)) ∧ w'.cell? ⟨(a1.add (m * 4)).block, (a1.add (m * 4)).off + 1, none⟩ = some (.int .i64 e1) ∧ qab (Below w6.drew.heap.size w6.drew w')))) (ds := []) (msk 27 0) (by kernel_rfl) rfl rfl (HT.out _ (qaq (Below.refl _ _))) (fun hHeld => ?_)
       have HP8 := qab.mk hHeld
       refine zq 0 1 41 ?_
       refine zq 1 2 42 ?_
       refine zq 2 3 43 ?_
       refine zo 3 4 44 ?_
       refine zo 4 5 45 ?_
       refine zo 5 6 46 ?_
       refine zo 6 7 47 ?_
       refine zo 7 8 48 ?_
       refine zq 8 9 49 ?_
       refine zq 9 10 50 ?_
       refine zq 10 11 51 ?_
       refine zq 11 12 52 ?_
       refine zq 12 13 53 ?_
       refine zq 13 14 54 ?_
       refine zt4 14 15 55 hHeld ?_
       refine zq 15 16 56 ?_
       refine zq 16 17 57 ?_
       refine zq 17 18 58 ?_
       refine zq 18 19 59 ?_
       refine zt4 19 20 60 hHeld ?_
       refine zq 20 21 61 ?_
       refine zq 21 22 62 ?_
       refine zt4 22 23 63 hHeld ?_
       refine zq 23 24 64 ?_
       refine zq 24 25 65 ?_
       refine zq 25 26 66 ?_
       refine zq 26 27 67 ?_
       refine done_ (by kernel_rfl) ?_
       clear hHeld
       replace HB := qab.mk (qae HB.out HP8.out.2.2.2.out)
       replace BKgb := qab.mk (qad BKgb.out HP8.out.2.2.2.out)
       go_wp2
       go_ret
       exact ⟨by rw [HV.out]; rfl, HB.out⟩
   ·
    obtain ⟨j, hj⟩ : ∃ j, l1.length = j + 1 := ⟨l1.length - 1, by omega⟩
    have hrj := ldAt_rng (HN.out j (by omega))
    have HV : qab (leadsB l0_1 l0_2 l1 a2 = decide ((ldE l0_1 l1 j).f1 = a2)) := ⟨by rw [leadsB_end (by omega) (fun k hk => HN.out k (by omega)), hj]; rfl⟩
    obtain ⟨ad, e, t2⟩ := Kd.at_int HR.out j (by omega) (by omega)
    cases e
    obtain ⟨m, hm⟩ := Int.eq_ofNat_of_zero_le hrj.1
    have hm1 : m < l0_1.length := by omega
    obtain ⟨a1, e, _, t4, _, _⟩ := at_T44 HR1.out m (by omega) (by omega)
    cases e
    simp only [Int.toNat_natCast] at t2 t4
    rw [hm] at t2
    replace t2 := (HB.out.cell (World.block_lt_of_cell? w _ t2)).trans t2; replace t4 := (HB.out.cell (World.block_lt_of_cell? w _ t4)).trans t4
    obtain ⟨e1, he1⟩ : ∃ c, c = (qav l0_1 m).f1 := ⟨_, rfl⟩
    rw [← he1] at t4
    have T2 := qab.mk t2
    have T4 := qab.mk t4
    have HV2 : qab (leadsB l0_1 l0_2 l1 a2 = (e1 == a2)) := ⟨by rw [HV.out]; unfold ldE; rw [hm, he1]; by_cases h : (qav l0_1 (m : Int)).f1 = a2 <;> simp [h]⟩
    have hj1 : IntKind.i64.wrap ((l1.length : Int) - 1) = (j : Int) := by rw [i64_w]; unfold wrap64; omega
    have hjl : j < l1.length := by omega
    clear t2 t4 he1 hj HV hrj hm
    go_upto_region 11 with fail
    have HT : qab (∀ W, Below wr.heap.size wr W → (W.cell? ⟨gb, 1, none⟩ = some (.slice (some a1) l0_1.length c0_1) ∧ W.cell? (ad.add j) = some (.int .i64 (m : Int)) ∧ W.cell? ⟨(a1.add (m * 4)).block, (a1.add (m * 4)).off + 1, none⟩ = some (.int .i64 e1) ∧ qab (Below wr.heap.size wr W))) := ⟨fun W h => ⟨(qaa (qad BKgb.out h) 1).trans rfl, (h.cell (World.block_lt_of_cell? wr _ T2.out)).trans T2.out, (h.cell (World.block_lt_of_cell? wr _ T4.out)).trans T4.out, ⟨h⟩⟩⟩
    refine start_ (n := 14) (S := (fun w' => (w'.cell? ⟨gb, 1, none⟩ = some (.slice (some a1) l0_1.length c0_1) ∧ w'.cell? (ad.add j) = some (.int .i64 (m : Int)) ∧ w'.cell? ⟨(a1.add (m * 4)).block, (a1.add (m * 4)).off + 1, none⟩ = some (.int .i64 e1) ∧ qab (Below wr.heap.size wr w')))) (ds := []) (msk 14 0) (by kernel_rfl) rfl rfl (HT.out _ (qaq (Below.refl _ _))) (fun hHeld => ?_)
    have HP8 := qab.mk hHeld
    refine zq 0 1 68 ?_
    refine zt4 1 2 69 hHeld ?_
    refine zq 2 3 70 ?_
    refine zq 3 4 71 ?_
    refine zq 4 5 72 ?_
    refine zq 5 6 73 ?_
    refine zq 6 7 74 ?_
    refine zt4 7 8 75 hHeld ?_
    refine zq 8 9 76 ?_
    refine zq 9 10 77 ?_
    refine zt4 10 11 78 hHeld ?_
    refine zq 11 12 79 ?_
    refine zq 12 13 80 ?_
    refine zq 13 14 6 ?_
    refine done_ (by kernel_rfl) ?_
    clear hHeld
    replace HB := qab.mk (qae HB.out HP8.out.2.2.2.out)
    replace BKgb := qab.mk (qad BKgb.out HP8.out.2.2.2.out)
    go_wp2
    go_ret
    exact ⟨by rw [HV2.out]; rfl, HB.out⟩
def arB (dyk : List Int) (l1 : List S44) (l4 : List S41) (n y : Nat) : Bool := !dyk.contains (n : Int) && decide ((qav l1 n).f2 ≤ (rd_T41 l4 y).f1)
def arN (dyk : List Int) (l1 : List S44) (l4 : List S41) (n y : Nat) : Nat := (((List.range l4.length).drop y).find? (arB dyk l1 l4 n)).getD l4.length
def arTo (dyk : List Int) (l1 : List S44) (l4 : List S41) (l : List Int) (y : Nat) : Nat := l.foldl (fun y x => arN dyk l1 l4 x.toNat y) y
def arrV (dyk : List Int) (l1 : List S44) (l4 : List S41) (l : List Int) : Nat := arTo dyk l1 l4 l 0
def edgesB (l1 : List S44) (l : List Int) : Bool := l.all fun x => inB x 0 ((l1.length : Int) - 1)
theorem arN_step (dyk : List Int) (l1 : List S44) (l4 : List S41) (n y : Nat) (hy : y < l4.length) : arN dyk l1 l4 n y = if arB dyk l1 l4 n y = true then y else arN dyk l1 l4 n (y + 1) := by
 unfold arN
 have hl : y < (List.range l4.length).length := by simpa using hy
 rw [List.drop_eq_getElem_cons hl, List.find?_cons]
 simp only [List.getElem_range]
 cases arB dyk l1 l4 n y <;> simp
theorem arN_end (dyk : List Int) (l1 : List S44) (l4 : List S41) (n y : Nat) (hy : l4.length ≤ y) : arN dyk l1 l4 n y = l4.length := by
 unfold arN
 rw [List.drop_eq_nil_of_le (by simpa using hy)]
 rfl
theorem edgesB_at {l1 : List S44} {l : List Int} (h : edgesB l1 l = true) (i : Nat) (hi : i < l.length) : 0 ≤ rd l i ∧ rd l i < l1.length := by
 unfold edgesB at h
 rw [List.all_eq_true] at h
 have h1 := h _ (List.getElem_mem hi)
 unfold inB at h1
 simp only [Bool.and_eq_true, decide_eq_true_eq] at h1
 have e : rd l (i : Int) = l[i] := by simp [rd, hi]
 rw [e]
 omega
def talikref07_Arrives.f (a0_0 : Int) (l0_1 : List (S44)) (l0_2 : List Int) (l0_3 : List Int) (l0_4 : List (S41)) (l0_5 : List (S95)) (l1 : List Int) (l2 : List Int) : Option (Int) := if edgesB l0_1 l2 = true then some (arrV l1 l0_1 l0_4 l2 : Int) else none
theorem talikref07_Arrives.calls (a0_0 : Int) (A0_1 : Option Addr) (c0_1 : Nat) (l0_1 : List (S44)) (A0_2 : Option Addr) (c0_2 : Nat) (l0_2 : List Int) (A0_3 : Option Addr) (c0_3 : Nat) (l0_3 : List Int) (A0_4 : Option Addr) (c0_4 : Nat) (l0_4 : List (S41)) (A0_5 : Option Addr) (c0_5 : Nat) (l0_5 : List (S95)) (A1 : Option Addr) (c1 : Nat) (l1 : List Int) (A2 : Option Addr) (c2 : Nat) (l2 : List Int) (r : Int) (w : World) (hr0_1 : Kd.C k44 w A0_1 l0_1.length l0_1) (hc0_1 : l0_1.length ≤ c0_1) (hr0_2 : Kd.C (Kd.int .i64) w A0_2 l0_2.length l0_2) (hc0_2 : l0_2.length ≤ c0_2) (hr0_3 : Kd.C (Kd.int .i64) w A0_3 l0_3.length l0_3) (hc0_3 : l0_3.length ≤ c0_3) (hr0_4 : Kd.C k41 w A0_4 l0_4.length l0_4) (hc0_4 : l0_4.length ≤ c0_4) (hr0_5 : Kd.C k95 w A0_5 l0_5.length l0_5) (hc0_5 : l0_5.length ≤ c0_5) (hr1 : Kd.C (Kd.int .i64) w A1 l1.length l1) (hc1 : l1.length ≤ c1) (hr2 : Kd.C (Kd.int .i64) w A2 l2.length l2) (hc2 : l2.length ≤ c2) (h : talikref07_Arrives.f a0_0 l0_1 l0_2 l0_3 l0_4 l0_5 l1 l2 = some r) :
  Calls Try.prog 31 #[.agg #[.int .i64 a0_0, .slice A0_1 l0_1.length c0_1, .slice A0_2 l0_2.length c0_2, .slice A0_3 l0_3.length c0_3, .slice A0_4 l0_4.length c0_4, .slice A0_5 l0_5.length c0_5], .slice A1 l1.length c1, .slice A2 l2.length c2] w fun e w' => e = .returned (.int .i64 r) ∧ Below w.heap.size w w' := by
 have hed : edgesB l0_1 l2 = true := by
  by_cases h2 : edgesB l0_1 l2 = true
  ·
   exact h2
  ·
   unfold talikref07_Arrives.f at h
   rw [if_neg h2] at h
   cases h
 have hr : (arrV l1 l0_1 l0_4 l2 : Int) = r := by
  unfold talikref07_Arrives.f at h
  rw [if_pos hed] at h
  exact Option.some.inj h
 have HED := qab.mk hed
 have HRR := qab.mk hr
 clear h hr hed
 have hu27 := Try.underlying27
 have hu44 := Try.underlying44
 have hu41 := Try.underlying41
 have m2 := Kd.C_max hr2
 have m1 := Kd.C_max hr0_1
 have m4 := Kd.C_max hr0_4
 have HR1 := qab.mk hr0_1
 have HR4 := qab.mk hr0_4
 have HD := qab.mk hr1
 have HL := qab.mk hr2
 have HB := qab.mk (Below.refl w.heap.size w)
 clear hr0_1 hr0_2 hr0_3 hr0_4 hr0_5 hr1 hr2 hc2
 go_enter Try.func31, Try.ntmps31
 go_wp2_with ((with_reducible refine qam (N := 3) rfl ?_); refine ze 3 #[.int .i64 a0_0, .slice A0_1 l0_1.length c0_1, .slice A0_2 l0_2.length c0_2, .slice A0_3 l0_3.length c0_3, .slice A0_4 l0_4.length c0_4, .slice A0_5 l0_5.length c0_5] 27 ?_; intro gb hg_gb w2 hbox hb; have BKgb := qab.mk hbox; have n_HB := qab.mk (qae HB.out hb); have GEgb : w.heap.size ≤ gb := (by rw [hg_gb]; exact HB.out.size); clear HB; have HB := n_HB; clear n_HB; obtain ⟨hfgb, hcgb_0, hcgb_1, hcgb_2, hcgb_3, hcgb_4, hcgb_5⟩ := qz6 BKgb.out; clear hbox hb hg_gb)
 clear hfgb hcgb_0 hcgb_1 hcgb_2 hcgb_3 hcgb_4 hcgb_5
 go_loopw [7, 8] (fun s7 s8 wr => ∃ (y i : Nat), y ≤ l0_4.length ∧ i ≤ l2.length ∧ s7 = .int .i64 y ∧ s8 = .int .i64 i ∧ qab (arrV l1 l0_1 l0_4 l2 = arTo l1 l0_1 l0_4 (l2.drop i) y) ∧ qab (wr.heap[gb]? = some (.cells #[.int .i64 a0_0, .slice A0_1 l0_1.length c0_1, .slice A0_2 l0_2.length c0_2, .slice A0_3 l0_3.length c0_3, .slice A0_4 l0_4.length c0_4, .slice A0_5 l0_5.length c0_5] 27 (0, 0))) ∧ qab (Below w.heap.size w wr)) (fun _ s _ => l2.length - (intOf s).toNat)
 case atStart => exact ⟨0, 0, by omega, by omega, rfl, rfl, ⟨rfl⟩, BKgb, HB⟩
 case round =>
  clear BKgb HB
  obtain ⟨y0, i, hy0, hi, rfl, rfl, HA, BKgb, HB⟩ := hrel
  by_cases hlt : i < l2.length
  ·
   have hrg := edgesB_at HED.out i hlt
   obtain ⟨ad, e, t0⟩ := Kd.at_int HL.out i (by omega) (by omega)
   cases e
   simp only [Int.toNat_natCast] at t0
   have hds : l2.drop i = rd l2 (i : Int) :: l2.drop (i + 1) := by
    rw [List.drop_eq_getElem_cons hlt]
    congr 1
    simp [rd, hlt]
   obtain ⟨n, hn⟩ := Int.eq_ofNat_of_zero_le hrg.1
   have hn1 : n < l0_1.length := by omega
   have HA2 : qab (arrV l1 l0_1 l0_4 l2 = arTo l1 l0_1 l0_4 (l2.drop (i + 1)) (arN l1 l0_1 l0_4 n y0)) := ⟨by rw [HA.out, hds, hn]; rfl⟩
   rw [hn] at t0
   have T0 := qab.mk t0
   clear hrg hds hn t0 HA
   go_wp2
   go_loopw [7] (fun s7 wr => ∃ (y : Nat), y ≤ l0_4.length ∧ s7 = .int .i64 y ∧ qab (arN l1 l0_1 l0_4 n y0 = arN l1 l0_1 l0_4 n y) ∧ qab (wr.heap[gb]? = some (.cells #[.int .i64 a0_0, .slice A0_1 l0_1.length c0_1, .slice A0_2 l0_2.length c0_2, .slice A0_3 l0_3.length c0_3, .slice A0_4 l0_4.length c0_4, .slice A0_5 l0_5.length c0_5] 27 (0, 0))) ∧ qab (Below w.heap.size w wr)) (fun s _ => l0_4.length - (intOf s).toNat)
   case atStart => exact ⟨y0, hy0, rfl, ⟨rfl⟩, BKgb, HB⟩
   case round =>
    clear BKgb HB hy0
    obtain ⟨y, hy, rfl, HN, BKgb, HB⟩ := hrel
    have t0 := T0.out
    replace t0 := (HB.out.cell (World.block_lt_of_cell? w _ t0)).trans t0
    have T5 := qab.mk t0
    clear t0
    obtain ⟨dy, hdy⟩ : ∃ b, b = l1.contains (n : Int) := ⟨_, rfl⟩
    have HDY : qab (∀ W, Below wr.heap.size wr W → Calls Try.prog 25 #[.slice A1 l1.length c1, .int .i64 (n : Int)] W fun e w' => e = .returned (.bool dy) ∧ Below W.heap.size W w') := ⟨fun W hW => by rw [hdy]; exact rhas_calls _ _ _ _ W (Kd.qai HD.out (qae HB.out hW)) hc1⟩
    go_upto_region 5 with fail
    by_cases hyl : y < l0_4.length
    ·
     cases dy with
     | true =>
      have HS : qab (arN l1 l0_1 l0_4 n y0 = arN l1 l0_1 l0_4 n (y + 1)) := ⟨by rw [HN.out, arN_step l1 l0_1 l0_4 n y hyl, if_neg (by unfold arB; rw [← hdy]; simp)]⟩
      have HT : qab (∀ W, Below wr.heap.size wr W → (W.cell? ⟨gb, 4, none⟩ = some (.slice A0_4 l0_4.length c0_4) ∧ W.cell? (ad.add i) = some (.int .i64 (n : Int)) ∧ qab (Below wr.heap.size wr W))) := ⟨fun W h => ⟨(qaa (qad BKgb.out h) 4).trans rfl, (h.cell (World.block_lt_of_cell? wr _ T5.out)).trans T5.out, ⟨h⟩⟩⟩
      clear hdy
      refine start_ (n := 31) (S := (fun w' => (w'.cell? ⟨gb, 4, none⟩ = some (.slice A0_4 l0_4.length c0_4) ∧ w'.cell? (ad.add i) = some (.int .i64 (n : Int)) ∧ qab (Below wr.heap.size wr w')))) (ds := []) (msk 31 0) (by kernel_rfl) rfl rfl (HT.out _ (qaq (Below.refl _ _))) (fun hHeld => ?_)
      refine zq 0 1 15 ?_
      refine zq 1 2 16 ?_
      refine zt3 2 3 17 hHeld ?_
      refine zq 3 4 18 ?_
      refine zq 4 5 19 ?_
      refine zq 5 6 20 ?_
      refine zq 6 7 21 ?_
      refine zq 7 8 22 ?_
      refine zq 8 9 23 ?_
      refine zq 9 10 24 ?_
      refine zt3 10 11 25 hHeld ?_
      refine one_ (i := 11) (N := some 26) (msk 31 12) rfl rfl (by kernel_rfl) (by decide) (fun K hK => ?_)
      refine zg Try.func25 #[.slice A1 l1.length c1, .int .i64 (n : Int)] ?_
      refine (HDY.out _ hHeld.2.2.out).mono ?_; rintro e w6 ⟨rfl, hb⟩; have HP6 := qab.mk (HT.out w6 (qae hHeld.2.2.out hb)); clear hb; refine ⟨_, rfl, ?_⟩; refine hK.out _ _ HP6.out (fun hHeld => ?_); clear hK K; refine zn 26 ?_
      refine zq 12 13 27 ?_
      refine zo 13 14 28 ?_
      refine zo 14 15 29 ?_
      refine zo 15 16 30 ?_
      refine zo 16 17 31 ?_
      refine zo 17 18 32 ?_
      refine zo 18 19 33 ?_
      refine zo 19 20 34 ?_
      refine zo 20 21 35 ?_
      refine zo 21 22 36 ?_
      refine zo 22 23 37 ?_
      refine zo 23 24 38 ?_
      refine zo 24 25 39 ?_
      refine zo 25 26 40 ?_
      refine zo 26 27 41 ?_
      refine zo 27 28 42 ?_
      refine zo 28 29 43 ?_
      refine zq 29 30 44 ?_
      refine zq 30 31 45 ?_
      refine done_ (by kernel_rfl) ?_
      clear hHeld
      have HB9 := qab.mk (qae HB.out HP6.out.2.2.out)
      have BK9 := qab.mk (qad BKgb.out HP6.out.2.2.out)
      go_wp2
      go_roundw
      case rel => exact ⟨y + 1, by omega, by go_num, HS, BK9, HB9⟩
      case measure => simp [intOf]; omega
     | false =>
      obtain ⟨a4, e, _, t1⟩ := at_T41 HR4.out y (by omega) (by omega)
      cases e
      obtain ⟨a1, e, _, _, t2, _⟩ := at_T44 HR1.out n (by omega) (by omega)
      cases e
      simp only [Int.toNat_natCast] at t1 t2
      replace t1 := (HB.out.cell (World.block_lt_of_cell? w _ t1)).trans t1; replace t2 := (HB.out.cell (World.block_lt_of_cell? w _ t2)).trans t2
      obtain ⟨hi, hhi⟩ : ∃ x, x = (rd_T41 l0_4 y).f1 := ⟨_, rfl⟩
      obtain ⟨dp, hdp⟩ : ∃ x, x = (qav l0_1 n).f2 := ⟨_, rfl⟩
      rw [← hhi] at t1
      rw [← hdp] at t2
      have T1 := qab.mk t1
      have T2 := qab.mk t2
      have HT : qab (∀ W, Below wr.heap.size wr W → (W.cell? ⟨gb, 4, none⟩ = some (.slice (some a4) l0_4.length c0_4) ∧ W.cell? (ad.add i) = some (.int .i64 (n : Int)) ∧ W.cell? ⟨gb, 1, none⟩ = some (.slice (some a1) l0_1.length c0_1) ∧ W.cell? ⟨(a4.add (y * 2)).block, (a4.add (y * 2)).off + 1, none⟩ = some (.int .i64 hi) ∧ W.cell? ⟨(a1.add (n * 4)).block, (a1.add (n * 4)).off + 2, none⟩ = some (.int .i64 dp) ∧ qab (Below wr.heap.size wr W))) := ⟨fun W h => ⟨(qaa (qad BKgb.out h) 4).trans rfl, (h.cell (World.block_lt_of_cell? wr _ T5.out)).trans T5.out, (qaa (qad BKgb.out h) 1).trans rfl, (h.cell (World.block_lt_of_cell? wr _ T1.out)).trans T1.out, (h.cell (World.block_lt_of_cell? wr _ T2.out)).trans T2.out, ⟨h⟩⟩⟩
      clear t1 t2
      by_cases hc : hi < dp
      ·
       have hcd : decide (hi < dp) = true := decide_eq_true hc
       have HS : qab (arN l1 l0_1 l0_4 n y0 = arN l1 l0_1 l0_4 n (y + 1)) := ⟨by rw [HN.out, arN_step l1 l0_1 l0_4 n y hyl, if_neg (by unfold arB; rw [← hdy, ← hhi, ← hdp]; simp; omega)]⟩
       clear hdy hhi hdp hc
       refine start_ (n := 31) (S := (fun w' => (w'.cell? ⟨gb, 4, none⟩ = some (.slice (some a4) l0_4.length c0_4) ∧ w'.cell? (ad.add i) = some (.int .i64 (n : Int)) ∧ w'.cell? ⟨gb, 1, none⟩ = some (.slice (some a1) l0_1.length c0_1) ∧ w'.cell? ⟨(a4.add (y * 2)).block, (a4.add (y * 2)).off + 1, none⟩ = some (.int .i64 hi) ∧ w'.cell? ⟨(a1.add (n * 4)).block, (a1.add (n * 4)).off + 2, none⟩ = some (.int .i64 dp) ∧ qab (Below wr.heap.size wr w')))) (ds := []) (msk 31 0) (by kernel_rfl) rfl rfl (HT.out _ (qaq (Below.refl _ _))) (fun hHeld => ?_)
       refine zq 0 1 15 ?_
       refine zq 1 2 16 ?_
       refine zt6 2 3 17 hHeld ?_
       refine zq 3 4 18 ?_
       refine zq 4 5 19 ?_
       refine zq 5 6 20 ?_
       refine zq 6 7 21 ?_
       refine zq 7 8 22 ?_
       refine zq 8 9 23 ?_
       refine zq 9 10 24 ?_
       refine zt6 10 11 25 hHeld ?_
       refine one_ (i := 11) (N := some 26) (msk 31 12) rfl rfl (by kernel_rfl) (by decide) (fun K hK => ?_)
       refine zg Try.func25 #[.slice A1 l1.length c1, .int .i64 (n : Int)] ?_
       refine (HDY.out _ hHeld.2.2.2.2.2.out).mono ?_; rintro e w6 ⟨rfl, hb⟩; have HP6 := qab.mk (HT.out w6 (qae hHeld.2.2.2.2.2.out hb)); clear hb; refine ⟨_, rfl, ?_⟩; refine hK.out _ _ HP6.out (fun hHeld => ?_); clear hK K; refine zn 26 ?_
       refine zq 12 13 27 ?_
       refine zq 13 14 28 ?_
       refine zt6 14 15 29 hHeld ?_
       refine zq 15 16 30 ?_
       refine zq 16 17 31 ?_
       refine zq 17 18 32 ?_
       refine zt6 18 19 33 hHeld ?_
       refine zq 19 20 34 ?_
       refine zt6 20 21 35 hHeld ?_
       refine zq 21 22 36 ?_
       refine zq 22 23 37 ?_
       refine zq 23 24 38 ?_
       refine zt6 24 25 39 hHeld ?_
       refine zq 25 26 40 ?_
       refine zq 26 27 41 ?_
       refine zt6 27 28 42 hHeld ?_
       refine zq 28 29 43 ?_
       refine zq 29 30 44 ?_
       refine zq 30 31 45 ?_
       refine done_ (by kernel_rfl) ?_
       clear hHeld
       have HB9 := qab.mk (qae HB.out HP6.out.2.2.2.2.2.out)
       have BK9 := qab.mk (qad BKgb.out HP6.out.2.2.2.2.2.out)
       go_wp2
       go_roundw
       case rel => exact ⟨y + 1, by omega, by go_num, HS, BK9, HB9⟩
       case measure => simp [intOf]; omega
      ·
       have hcd : decide (hi < dp) = false := decide_eq_false hc
       have HS : qab (arrV l1 l0_1 l0_4 l2 = arTo l1 l0_1 l0_4 (l2.drop (i + 1)) y) := ⟨by rw [HA2.out, HN.out, arN_step l1 l0_1 l0_4 n y hyl, if_pos (by unfold arB; rw [← hdy, ← hhi, ← hdp]; simp; omega)]⟩
       clear hdy hhi hdp hc
       refine start_ (n := 31) (S := (fun w' => (w'.cell? ⟨gb, 4, none⟩ = some (.slice (some a4) l0_4.length c0_4) ∧ w'.cell? (ad.add i) = some (.int .i64 (n : Int)) ∧ w'.cell? ⟨gb, 1, none⟩ = some (.slice (some a1) l0_1.length c0_1) ∧ w'.cell? ⟨(a4.add (y * 2)).block, (a4.add (y * 2)).off + 1, none⟩ = some (.int .i64 hi) ∧ w'.cell? ⟨(a1.add (n * 4)).block, (a1.add (n * 4)).off + 2, none⟩ = some (.int .i64 dp) ∧ qab (Below wr.heap.size wr w')))) (ds := []) (msk 31 0) (by kernel_rfl) rfl rfl (HT.out _ (qaq (Below.refl _ _))) (fun hHeld => ?_)
       refine zq 0 1 15 ?_
       refine zq 1 2 16 ?_
       refine zt6 2 3 17 hHeld ?_
       refine zq 3 4 18 ?_
       refine zq 4 5 19 ?_
       refine zq 5 6 20 ?_
       refine zq 6 7 21 ?_
       refine zq 7 8 22 ?_
       refine zq 8 9 23 ?_
       refine zq 9 10 24 ?_
       refine zt6 10 11 25 hHeld ?_
       refine one_ (i := 11) (N := some 26) (msk 31 12) rfl rfl (by kernel_rfl) (by decide) (fun K hK => ?_)
       refine zg Try.func25 #[.slice A1 l1.length c1, .int .i64 (n : Int)] ?_
       refine (HDY.out _ hHeld.2.2.2.2.2.out).mono ?_; rintro e w6 ⟨rfl, hb⟩; have HP6 := qab.mk (HT.out w6 (qae hHeld.2.2.2.2.2.out hb)); clear hb; refine ⟨_, rfl, ?_⟩; refine hK.out _ _ HP6.out (fun hHeld => ?_); clear hK K; refine zn 26 ?_
       refine zq 12 13 27 ?_
       refine zq 13 14 28 ?_
       refine zt6 14 15 29 hHeld ?_
       refine zq 15 16 30 ?_
       refine zq 16 17 31 ?_
       refine zq 17 18 32 ?_
       refine zt6 18 19 33 hHeld ?_
       refine zq 19 20 34 ?_
       refine zt6 20 21 35 hHeld ?_
       refine zq 21 22 36 ?_
       refine zq 22 23 37 ?_
       refine zq 23 24 38 ?_
       refine zt6 24 25 39 hHeld ?_
       refine zq 25 26 40 ?_
       refine zq 26 27 41 ?_
       refine zt6 27 28 42 hHeld ?_
       refine zq 28 29 43 ?_
       refine zq 29 30 44 ?_
       refine zq 30 31 45 ?_
       refine done_ (by kernel_rfl) ?_
       clear hHeld
       have HB9 := qab.mk (qae HB.out HP6.out.2.2.2.2.2.out)
       have BK9 := qab.mk (qad BKgb.out HP6.out.2.2.2.2.2.out)
       go_wp2
       go_roundw
       case rel => exact ⟨y, i + 1, by omega, by omega, rfl, by go_num, HS, BK9, HB9⟩
       case measure => simp [intOf]; omega
    ·
     have HS : qab (arrV l1 l0_1 l0_4 l2 = arTo l1 l0_1 l0_4 (l2.drop (i + 1)) y) := ⟨by rw [HA2.out, HN.out, arN_end l1 l0_1 l0_4 n y (by omega), show y = l0_4.length from by omega]⟩
     have HT : qab (∀ W, Below wr.heap.size wr W → (W.cell? ⟨gb, 4, none⟩ = some (.slice A0_4 l0_4.length c0_4) ∧ qab (Below wr.heap.size wr W))) := ⟨fun W h => ⟨(qaa (qad BKgb.out h) 4).trans rfl, ⟨h⟩⟩⟩
     clear hdy
     refine start_ (n := 31) (S := (fun w' => (w'.cell? ⟨gb, 4, none⟩ = some (.slice A0_4 l0_4.length c0_4) ∧ qab (Below wr.heap.size wr w')))) (ds := []) (msk 31 0) (by kernel_rfl) rfl rfl (HT.out _ (qaq (Below.refl _ _))) (fun hHeld => ?_)
     have HP6 := qab.mk hHeld
     refine zq 0 1 15 ?_
     refine zq 1 2 16 ?_
     refine zt2 2 3 17 hHeld ?_
     refine zq 3 4 18 ?_
     refine zq 4 5 19 ?_
     refine zq 5 6 20 ?_
     refine zo 6 7 21 ?_
     refine zo 7 8 22 ?_
     refine zo 8 9 23 ?_
     refine zo 9 10 24 ?_
     refine zo 10 11 25 ?_
     refine zo 11 12 26 ?_
     refine zo 12 13 27 ?_
     refine zo 13 14 28 ?_
     refine zo 14 15 29 ?_
     refine zo 15 16 30 ?_
     refine zo 16 17 31 ?_
     refine zo 17 18 32 ?_
     refine zo 18 19 33 ?_
     refine zo 19 20 34 ?_
     refine zo 20 21 35 ?_
     refine zo 21 22 36 ?_
     refine zo 22 23 37 ?_
     refine zo 23 24 38 ?_
     refine zo 24 25 39 ?_
     refine zo 25 26 40 ?_
     refine zo 26 27 41 ?_
     refine zo 27 28 42 ?_
     refine zo 28 29 43 ?_
     refine zo 29 30 44 ?_
     refine zq 30 31 45 ?_
     refine done_ (by kernel_rfl) ?_
     clear hHeld
     have HB9 := qab.mk (qae HB.out HP6.out.2.out)
     have BK9 := qab.mk (qad BKgb.out HP6.out.2.out)
     go_wp2
     go_roundw
     case rel => exact ⟨y, i + 1, by omega, by omega, rfl, by go_num, HS, BK9, HB9⟩
     case measure => simp [intOf]; omega
  ·
   have HZ : qab (r = (y0 : Int)) := ⟨by rw [← HRR.out, HA.out, List.drop_eq_nil_of_le (by omega)]; rfl⟩
   go_wp2
   go_ret
   exact ⟨by rw [HZ.out]; rfl, HB.out⟩
def talikref07_IsRoute.f (a0_0 : Int) (l0_1 : List (S44)) (l0_2 : List Int) (l0_3 : List Int) (l0_4 : List (S41)) (l0_5 : List (S95)) (l1 : List Int) (l2 : List Int) (a3 : Int) : Option (Bool) := (talikref07_Leads.f a0_0 l0_1 l0_2 l0_3 l0_4 l0_5 l2 a3).bind fun t481 => (if t481 = true then ((talikref07_Arrives.f a0_0 l0_1 l0_2 l0_3 l0_4 l0_5 l1 l2).bind fun t482 => (some (decide (t482 < (l0_4.length : Int))))) else (some false))
def talikref07_IsRoute.T1 : Bool × List (List Nat × List Nat) := (true, [([], []), ([], []), ([], []), ([0, 1, 2], [0, 1, 2]), ([3, 3], [3]), ([4], [4]), ([4], [4]), ([4], [4]), ([5, 6, 7, 4, 4], [4, 5, 6, 7]), ([4], [4]), ([9, 4], [4, 9]), ([10, 4], [4, 10]), ([8, 11, 4], [4, 8, 11]), ([4, 12], [4, 12]), ([13, 8, 0, 1, 2, 3, 4, 5, 6, 7, 8, 9, 10, 11, 12, 13], [13])])
def talikref07_IsRoute.B1 : List Nat := [0, 0, 0, 7, 15, 31, 31, 31, 255, 31, 543, 1567, 4095, 8191, 16383]
theorem talikref07_IsRoute.tab1 : rtab .any (opsOf Try.f84 1) = talikref07_IsRoute.T1 := by kernel_rfl
theorem talikref07_IsRoute.bits1 : waitsOk talikref07_IsRoute.T1.2 talikref07_IsRoute.B1 = true := by kernel_rfl
theorem talikref07_IsRoute.calls (a0_0 : Int) (A0_1 : Option Addr) (c0_1 : Nat) (l0_1 : List (S44)) (A0_2 : Option Addr) (c0_2 : Nat) (l0_2 : List Int) (A0_3 : Option Addr) (c0_3 : Nat) (l0_3 : List Int) (A0_4 : Option Addr) (c0_4 : Nat) (l0_4 : List (S41)) (A0_5 : Option Addr) (c0_5 : Nat) (l0_5 : List (S95)) (A1 : Option Addr) (c1 : Nat) (l1 : List Int) (A2 : Option Addr) (c2 : Nat) (l2 : List Int) (a3 : Int) (r : Bool) (w : World) (hr0_1 : Kd.C k44 w A0_1 l0_1.length l0_1) (hc0_1 : l0_1.length ≤ c0_1) (hr0_2 : Kd.C (Kd.int .i64) w A0_2 l0_2.length l0_2) (hc0_2 : l0_2.length ≤ c0_2) (hr0_3 : Kd.C (Kd.int .i64) w A0_3 l0_3.length l0_3) (hc0_3 : l0_3.length ≤ c0_3) (hr0_4 : Kd.C k41 w A0_4 l0_4.length l0_4) (hc0_4 : l0_4.length ≤ c0_4) (hr0_5 : Kd.C k95 w A0_5 l0_5.length l0_5) (hc0_5 : l0_5.length ≤ c0_5) (hr1 : Kd.C (Kd.int .i64) w A1 l1.length l1) (hc1 : l1.length ≤ c1) (hr2 : Kd.C (Kd.int .i64) w A2 l2.length l2) (hc2 : l2.length ≤ c2) (h : talikref07_IsRoute.f a0_0 l0_1 l0_2 l0_3 l0_4 l0_5 l1 l2 a3 = some r) :
  Calls Try.prog 84 #[.agg #[.int .i64 a0_0, .slice A0_1 l0_1.length c0_1, .slice A0_2 l0_2.length c0_2, .slice A0_3 l0_3.length c0_3, .slice A0_4 l0_4.length c0_4, .slice A0_5 l0_5.length c0_5], .slice A1 l1.length c1, .slice A2 l2.length c2, .int .i64 a3] w fun e w' => e = .returned (.bool r) ∧ Below w.heap.size w w' := by
 have hu27 := Try.underlying27
 have HR0_1 := qab.mk hr0_1
 have HC0_1 := qab.mk hc0_1
 clear hr0_1 hc0_1
 have HR0_2 := qab.mk hr0_2
 have HC0_2 := qab.mk hc0_2
 clear hr0_2 hc0_2
 have HR0_3 := qab.mk hr0_3
 have HC0_3 := qab.mk hc0_3
 clear hr0_3 hc0_3
 have HR0_4 := qab.mk hr0_4
 have HC0_4 := qab.mk hc0_4
 clear hr0_4 hc0_4
 have HR0_5 := qab.mk hr0_5
 have HC0_5 := qab.mk hc0_5
 clear hr0_5 hc0_5
 have HR1 := qab.mk hr1
 have HC1 := qab.mk hc1
 clear hr1 hc1
 have HR2 := qab.mk hr2
 have HC2 := qab.mk hc2
 clear hr2 hc2
 have HB := qab.mk (Below.refl w.heap.size w)
 have H : ((talikref07_Leads.f a0_0 l0_1 l0_2 l0_3 l0_4 l0_5 l2 a3).bind fun t481 => (if t481 = true then ((talikref07_Arrives.f a0_0 l0_1 l0_2 l0_3 l0_4 l0_5 l1 l2).bind fun t482 => (some (decide (t482 < (l0_4.length : Int))))) else (some false))) = some r := h
 clear h
 replace H := Option.bind_eq_some_iff.mp H
 obtain ⟨t481, A50, H⟩ := H
 try dsimp only at H
 have A5 := qab.mk A50
 clear A50
 by_cases c6 : t481 = true
 ·
  subst c6
  rw [if_pos rfl] at H
  replace H := Option.bind_eq_some_iff.mp H
  obtain ⟨t482, A70, H⟩ := H
  try dsimp only at H
  have A7 := qab.mk A70
  clear A70
  obtain rfl := Option.some.inj H
  go_enter Try.func84, Try.ntmps84
  try go_wp2_with (first | ((with_reducible refine qam (N := 4) rfl ?_); (try (refine gate_guard (by rfl) ?_; dsimp only)); refine ze 4 #[.int .i64 a0_0, .slice A0_1 l0_1.length c0_1, .slice A0_2 l0_2.length c0_2, .slice A0_3 l0_3.length c0_3, .slice A0_4 l0_4.length c0_4, .slice A0_5 l0_5.length c0_5] 27 ?_; intro gb480 hg w8 hbox hb; have n0_ := qab.mk (qae (zb HB.out) hb); have n1_ := qab.mk (hbox); have n2_ := qab.mk ((by rw [hg]; exact (below_size (zb HB.out)) : w.heap.size ≤ gb480)); have n3_ := qab.mk ((by rw [hg]; exact (below_size (zb HB.out)) : w.heap.size ≤ gb480)); clear HB; have HB := n0_; have BK480 := n1_; have GW480 := n2_; have GE480 := n3_; clear n0_ n1_ n2_ n3_; clear hb hbox hg))
  replace BK480 := qab.mk (qaw BK480.out)
  replace HB := qab.mk (qah HB.out)
  refine start_ (n := 15) (S := fun w' => w'.cell? ⟨gb480, 0, none⟩ = some (.int .i64 a0_0) ∧ w'.cell? ⟨gb480, 1, none⟩ = some (.slice A0_1 l0_1.length c0_1) ∧ w'.cell? ⟨gb480, 2, none⟩ = some (.slice A0_2 l0_2.length c0_2) ∧ w'.cell? ⟨gb480, 3, none⟩ = some (.slice A0_3 l0_3.length c0_3) ∧ w'.cell? ⟨gb480, 4, none⟩ = some (.slice A0_4 l0_4.length c0_4) ∧ w'.cell? ⟨gb480, 5, none⟩ = some (.slice A0_5 l0_5.length c0_5)) (ds := []) (msk 15 0) (by kernel_rfl) rfl rfl ⟨(qaa BK480.out 0).trans rfl, (qaa BK480.out 1).trans rfl, (qaa BK480.out 2).trans rfl, (qaa BK480.out 3).trans rfl, (qaa BK480.out 4).trans rfl, (qaa BK480.out 5).trans rfl⟩ (fun hHeld => ?_); refine with_tabW talikref07_IsRoute.tab1 talikref07_IsRoute.bits1 (fun HT_ HW_ => ?_)
  generalize w8.drew = w9 at BK480 HB hHeld ⊢
  refine zug #[false, true, false, false, false, false, false, false, false, false, false, false, false, false, false] HT_.out 1 10 ?_
  refine zug #[false, true, true, false, false, false, false, false, false, false, false, false, false, false, false] HT_.out 2 11 ?_
  refine zwg6 (msk 15 3) HT_.out HW_.out 0 9 hHeld ?_
  refine one_ (i := 3) (N := some 12) (msk 15 4) rfl rfl (one_of HT_.out (by kernel_rfl)) (by decide) (fun K hK => ?_)
  refine zg Try.func30 #[.agg #[.int .i64 a0_0, .slice A0_1 l0_1.length c0_1, .slice A0_2 l0_2.length c0_2, .slice A0_3 l0_3.length c0_3, .slice A0_4 l0_4.length c0_4, .slice A0_5 l0_5.length c0_5], .slice A2 l2.length c2, .int .i64 a3] ?_
  with_reducible refine (talikref07_Leads.calls a0_0 _ _ l0_1 _ _ l0_2 _ _ l0_3 _ _ l0_4 _ _ l0_5 _ _ l2 a3 true _ ?side1 ?side2 ?side3 ?side4 ?side5 ?side6 ?side7 ?side8 ?side9 ?side10 ?side11 ?side12 A5.out).mono ?_
  (case side1 => exact zs (Kd.qai HR0_1.out HB.out))
  (case side2 => exact HC0_1.out)
  (case side3 => exact zs (Kd.qai HR0_2.out HB.out))
  (case side4 => exact HC0_2.out)
  (case side5 => exact zs (Kd.qai HR0_3.out HB.out))
  (case side6 => exact HC0_3.out)
  (case side7 => exact zs (Kd.qai HR0_4.out HB.out))
  (case side8 => exact HC0_4.out)
  (case side9 => exact zs (Kd.qai HR0_5.out HB.out))
  (case side10 => exact HC0_5.out)
  (case side11 => exact zs (Kd.qai HR2.out HB.out))
  (case side12 => exact HC2.out)
  rintro e w10 ⟨rfl, hb⟩
  refine ⟨_, rfl, ?_⟩
  replace BK480 := qab.mk (zk BK480.out hb)
  replace HB := qab.mk (qae (by repeat (first | (with_reducible first | exact HB.out | apply qag | apply qaf | apply qah | refine qaj ?_ GE480.out) | exact HB.out)) hb)
  (try clear hb)
  (try clear hb2)
  (try clear hk)
  (try clear hi)
  refine hK.out _ _ ⟨(qaa BK480.out 0).trans rfl, (qaa BK480.out 1).trans rfl, (qaa BK480.out 2).trans rfl, (qaa BK480.out 3).trans rfl, (qaa BK480.out 4).trans rfl, (qaa BK480.out 5).trans rfl⟩ (fun hHeld => ?_)
  clear hK K
  refine zn 12 ?_
  refine zu HT_.out 4 5 13 ?_
  refine zug #[true, true, true, true, true, false, true, false, false, false, false, false, false, false, false] HT_.out 6 15 ?_
  refine zug #[true, true, true, true, true, false, true, true, false, false, false, false, false, false, false] HT_.out 7 16 ?_
  refine zug #[true, true, true, true, true, false, true, true, false, true, false, false, false, false, false] HT_.out 9 18 ?_
  refine zwg6 #[true, true, true, true, true, true, true, true, false, true, false, false, false, false, false] HT_.out HW_.out 5 14 hHeld ?_
  refine zwg6 #[true, true, true, true, true, true, true, true, false, true, true, false, false, false, false] HT_.out HW_.out 10 19 hHeld ?_
  refine zug #[true, true, true, true, true, true, true, true, false, true, true, true, false, false, false] HT_.out 11 20 ?_
  refine one_ (i := 8) (N := some 17) (msk 15 12) rfl rfl (one_of HT_.out (by kernel_rfl)) (by decide) (fun K hK => ?_)
  refine zg Try.func31 #[.agg #[.int .i64 a0_0, .slice A0_1 l0_1.length c0_1, .slice A0_2 l0_2.length c0_2, .slice A0_3 l0_3.length c0_3, .slice A0_4 l0_4.length c0_4, .slice A0_5 l0_5.length c0_5], .slice A1 l1.length c1, .slice A2 l2.length c2] ?_
  with_reducible refine (talikref07_Arrives.calls a0_0 _ _ l0_1 _ _ l0_2 _ _ l0_3 _ _ l0_4 _ _ l0_5 _ _ l1 _ _ l2 t482 _ ?side1 ?side2 ?side3 ?side4 ?side5 ?side6 ?side7 ?side8 ?side9 ?side10 ?side11 ?side12 ?side13 ?side14 A7.out).mono ?_
  (case side1 => exact zs (Kd.qai HR0_1.out HB.out))
  (case side2 => exact HC0_1.out)
  (case side3 => exact zs (Kd.qai HR0_2.out HB.out))
  (case side4 => exact HC0_2.out)
  (case side5 => exact zs (Kd.qai HR0_3.out HB.out))
  (case side6 => exact HC0_3.out)
  (case side7 => exact zs (Kd.qai HR0_4.out HB.out))
  (case side8 => exact HC0_4.out)
  (case side9 => exact zs (Kd.qai HR0_5.out HB.out))
  (case side10 => exact HC0_5.out)
  (case side11 => exact zs (Kd.qai HR1.out HB.out))
  (case side12 => exact HC1.out)
  (case side13 => exact zs (Kd.qai HR2.out HB.out))
  (case side14 => exact HC2.out)
  rintro e w11 ⟨rfl, hb⟩
  refine ⟨_, rfl, ?_⟩
  replace BK480 := qab.mk (zk BK480.out hb)
  replace HB := qab.mk (qae (by repeat (first | (with_reducible first | exact HB.out | apply qag | apply qaf | apply qah | refine qaj ?_ GE480.out) | exact HB.out)) hb)
  (try clear hb)
  (try clear hb2)
  (try clear hk)
  (try clear hi)
  refine hK.out _ _ ⟨(qaa BK480.out 0).trans rfl, (qaa BK480.out 1).trans rfl, (qaa BK480.out 2).trans rfl, (qaa BK480.out 3).trans rfl, (qaa BK480.out 4).trans rfl, (qaa BK480.out 5).trans rfl⟩ (fun hHeld => ?_)
  clear hK K
  refine zn 17 ?_
  refine zu HT_.out 12 13 21 ?_
  refine zu HT_.out 13 14 22 ?_
  refine zu HT_.out 14 15 8 ?_
  refine done_ (done_of HT_.out (by kernel_rfl)) ?_
  try go_wp2
  go_ret
  exact ⟨by first | rfl | (simp [qbb, qbc] <;> rfl) | (simp [*, qbb, qbc] <;> rfl), by repeat (first | (with_reducible first | exact HB.out | apply qag | apply qaf | apply qah | refine qaj ?_ GE480.out) | exact HB.out)⟩
 ·
  replace c6 := Bool.eq_false_iff.mpr c6
  subst c6
  rw [if_neg (show ¬ (false = true) by decide)] at H
  obtain rfl := Option.some.inj H
  go_enter Try.func84, Try.ntmps84
  try go_wp2_with (first | ((with_reducible refine qam (N := 4) rfl ?_); (try (refine gate_guard (by rfl) ?_; dsimp only)); refine ze 4 #[.int .i64 a0_0, .slice A0_1 l0_1.length c0_1, .slice A0_2 l0_2.length c0_2, .slice A0_3 l0_3.length c0_3, .slice A0_4 l0_4.length c0_4, .slice A0_5 l0_5.length c0_5] 27 ?_; intro gb480 hg w12 hbox hb; have n0_ := qab.mk (qae (zb HB.out) hb); have n1_ := qab.mk (hbox); have n2_ := qab.mk ((by rw [hg]; exact (below_size (zb HB.out)) : w.heap.size ≤ gb480)); have n3_ := qab.mk ((by rw [hg]; exact (below_size (zb HB.out)) : w.heap.size ≤ gb480)); clear HB; have HB := n0_; have BK480 := n1_; have GW480 := n2_; have GE480 := n3_; clear n0_ n1_ n2_ n3_; clear hb hbox hg))
  replace BK480 := qab.mk (qaw BK480.out)
  replace HB := qab.mk (qah HB.out)
  refine start_ (n := 15) (S := fun w' => w'.cell? ⟨gb480, 0, none⟩ = some (.int .i64 a0_0) ∧ w'.cell? ⟨gb480, 1, none⟩ = some (.slice A0_1 l0_1.length c0_1) ∧ w'.cell? ⟨gb480, 2, none⟩ = some (.slice A0_2 l0_2.length c0_2) ∧ w'.cell? ⟨gb480, 3, none⟩ = some (.slice A0_3 l0_3.length c0_3) ∧ w'.cell? ⟨gb480, 4, none⟩ = some (.slice A0_4 l0_4.length c0_4) ∧ w'.cell? ⟨gb480, 5, none⟩ = some (.slice A0_5 l0_5.length c0_5)) (ds := []) (msk 15 0) (by kernel_rfl) rfl rfl ⟨(qaa BK480.out 0).trans rfl, (qaa BK480.out 1).trans rfl, (qaa BK480.out 2).trans rfl, (qaa BK480.out 3).trans rfl, (qaa BK480.out 4).trans rfl, (qaa BK480.out 5).trans rfl⟩ (fun hHeld => ?_); refine with_tabW talikref07_IsRoute.tab1 talikref07_IsRoute.bits1 (fun HT_ HW_ => ?_)
  generalize w12.drew = w13 at BK480 HB hHeld ⊢
  refine zug #[false, true, false, false, false, false, false, false, false, false, false, false, false, false, false] HT_.out 1 10 ?_
  refine zug #[false, true, true, false, false, false, false, false, false, false, false, false, false, false, false] HT_.out 2 11 ?_
  refine zwg6 (msk 15 3) HT_.out HW_.out 0 9 hHeld ?_
  refine one_ (i := 3) (N := some 12) (msk 15 4) rfl rfl (one_of HT_.out (by kernel_rfl)) (by decide) (fun K hK => ?_)
  refine zg Try.func30 #[.agg #[.int .i64 a0_0, .slice A0_1 l0_1.length c0_1, .slice A0_2 l0_2.length c0_2, .slice A0_3 l0_3.length c0_3, .slice A0_4 l0_4.length c0_4, .slice A0_5 l0_5.length c0_5], .slice A2 l2.length c2, .int .i64 a3] ?_
  with_reducible refine (talikref07_Leads.calls a0_0 _ _ l0_1 _ _ l0_2 _ _ l0_3 _ _ l0_4 _ _ l0_5 _ _ l2 a3 false _ ?side1 ?side2 ?side3 ?side4 ?side5 ?side6 ?side7 ?side8 ?side9 ?side10 ?side11 ?side12 A5.out).mono ?_
  (case side1 => exact zs (Kd.qai HR0_1.out HB.out))
  (case side2 => exact HC0_1.out)
  (case side3 => exact zs (Kd.qai HR0_2.out HB.out))
  (case side4 => exact HC0_2.out)
  (case side5 => exact zs (Kd.qai HR0_3.out HB.out))
  (case side6 => exact HC0_3.out)
  (case side7 => exact zs (Kd.qai HR0_4.out HB.out))
  (case side8 => exact HC0_4.out)
  (case side9 => exact zs (Kd.qai HR0_5.out HB.out))
  (case side10 => exact HC0_5.out)
  (case side11 => exact zs (Kd.qai HR2.out HB.out))
  (case side12 => exact HC2.out)
  rintro e w14 ⟨rfl, hb⟩
  refine ⟨_, rfl, ?_⟩
  replace BK480 := qab.mk (zk BK480.out hb)
  replace HB := qab.mk (qae (by repeat (first | (with_reducible first | exact HB.out | apply qag | apply qaf | apply qah | refine qaj ?_ GE480.out) | exact HB.out)) hb)
  (try clear hb)
  (try clear hb2)
  (try clear hk)
  (try clear hi)
  refine hK.out _ _ ⟨(qaa BK480.out 0).trans rfl, (qaa BK480.out 1).trans rfl, (qaa BK480.out 2).trans rfl, (qaa BK480.out 3).trans rfl, (qaa BK480.out 4).trans rfl, (qaa BK480.out 5).trans rfl⟩ (fun hHeld => ?_)
  clear hK K
  refine zn 12 ?_
  refine zu HT_.out 4 5 13 ?_
  refine zv HT_.out 5 6 14 ?_
  refine zv HT_.out 6 7 15 ?_
  refine zv HT_.out 7 8 16 ?_
  refine zv HT_.out 8 9 17 ?_
  refine zv HT_.out 9 10 18 ?_
  refine zv HT_.out 10 11 19 ?_
  refine zv HT_.out 11 12 20 ?_
  refine zv HT_.out 12 13 21 ?_
  refine zu HT_.out 13 14 22 ?_
  refine zu HT_.out 14 15 8 ?_
  refine done_ (done_of HT_.out (by kernel_rfl)) ?_
  try go_wp2
  go_ret
  exact ⟨by first | rfl | (simp [qbb, qbc] <;> rfl) | (simp [*, qbb, qbc] <;> rfl), by repeat (first | (with_reducible first | exact HB.out | apply qag | apply qaf | apply qah | refine qaj ?_ GE480.out) | exact HB.out)⟩
end Go.Proofs.Ytafkanmioinbiaa.SA
