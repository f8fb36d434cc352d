/- What functions of the program answer. No condition. -/
import Derived.Test.YtafkanmioinbiaaSC
import Derived.Test.YtafkanmioinbiaaSE
import Derived.Test.YtafkanmioinbiaaSF
set_option linter.all false
set_option maxRecDepth 100000
set_option maxHeartbeats 8000000
namespace Go.Proofs.Ytafkanmioinbiaa.SA
open Go.RowKit Go.Proofs.YtafkanmioinbiaaW.PrintWords Go.Proofs.YtafkanmioinbiaaW.PrintLast Go.Proofs.YtafkanmioinbiaaW.PrintMore
attribute [local go_sem] max2_int min2_int max_two min_two qbe qbf max_four min_four
attribute [local go_sem] Oper.semAt_some
def playOk (l4 : List S41) (ths : List Int) : Bool := decide (ths.length = l4.length) && (List.range ths.length).all fun i => inB (rd ths i) (qbg l4 i).f0 (qbg l4 i).f1
def playV (p : Int) (l1 : List S44) (l2 l3 : List Int) (l4 : List S41) (l5 : List S95) (l ths : List Int) : List Int × Int :=
 if (givenB p l1 l2 l3 l4 l5 l && playOk l4 ths) = true then (foulV p.toNat l1 l2 (maskV l) ths, 0) else ([], 2)
theorem playOk_bad {l4 : List S41} {ths : List Int} (k : Nat) (hk : k < ths.length) (h : inB (rd ths k) (qbg l4 k).f0 (qbg l4 k).f1 = false) : playOk l4 ths = false := by
 unfold playOk
 rw [range_all_false k hk h, Bool.and_false]
theorem playOk_ok {l4 : List S41} {ths : List Int} (hl : ths.length = l4.length) (h : ∀ k : Nat, k < ths.length → inB (rd ths k) (qbg l4 k).f0 (qbg l4 k).f1 = true) : playOk l4 ths = true := by
 unfold playOk
 rw [range_all_true h, decide_eq_true hl]
 rfl
def seep_Play.f (a0_0 : Int) (l0_1 : List (S44)) (l0_2 : List Int) (l0_3 : List Int) (l0_4 : List (S41)) (l0_5 : List (S95)) (l1 : List Int) (l2 : List Int) : Option (List Int × Int) := some (playV a0_0 l0_1 l0_2 l0_3 l0_4 l0_5 l1 l2)
theorem seep_Play.calls (a0_0 : Int) (A0_1 : Option Addr) (c0_1 : Nat) (l0_1 : List (S44)) (A0_2 : Option Addr) (c0_2 : Nat) (l0_2 : List Int) (A0_3 : Option Addr) (c0_3 : Nat) (l0_3 : List Int) (A0_4 : Option Addr) (c0_4 : Nat) (l0_4 : List (S41)) (A0_5 : Option Addr) (c0_5 : Nat) (l0_5 : List (S95)) (A1 : Option Addr) (c1 : Nat) (l1 : List Int) (A2 : Option Addr) (c2 : Nat) (l2 : List Int) (r1 : List Int) (r2 : Int) (w : World) (hr0_1 : Kd.C k44 w A0_1 l0_1.length l0_1) (hc0_1 : l0_1.length ≤ c0_1) (hr0_2 : Kd.C (Kd.int .i64) w A0_2 l0_2.length l0_2) (hc0_2 : l0_2.length ≤ c0_2) (hr0_3 : Kd.C (Kd.int .i64) w A0_3 l0_3.length l0_3) (hc0_3 : l0_3.length ≤ c0_3) (hr0_4 : Kd.C k41 w A0_4 l0_4.length l0_4) (hc0_4 : l0_4.length ≤ c0_4) (hr0_5 : Kd.C k95 w A0_5 l0_5.length l0_5) (hc0_5 : l0_5.length ≤ c0_5) (hr1 : Kd.C (Kd.int .i64) w A1 l1.length l1) (hc1 : l1.length ≤ c1) (hr2 : Kd.C (Kd.int .i64) w A2 l2.length l2) (hc2 : l2.length ≤ c2) (h : seep_Play.f a0_0 l0_1 l0_2 l0_3 l0_4 l0_5 l1 l2 = some (r1, r2)) :
  Calls Try.prog 18 #[.agg #[.int .i64 a0_0, .slice A0_1 l0_1.length c0_1, .slice A0_2 l0_2.length c0_2, .slice A0_3 l0_3.length c0_3, .slice A0_4 l0_4.length c0_4, .slice A0_5 l0_5.length c0_5], .slice A1 l1.length c1, .slice A2 l2.length c2] w fun e w' => ∃ v0_ : Value, e = .returned (.tuple #[v0_, .int .i64 r2]) ∧ Kd.R (Kd.int .i64) 3 w' w.heap.size (fun _ => True) v0_ r1 ∧ Below w.heap.size w w' := by
 have hp : playV a0_0 l0_1 l0_2 l0_3 l0_4 l0_5 l1 l2 = (r1, r2) := Option.some.inj h
 clear h
 have hu27 := Try.underlying27
 have hu41 := Try.underlying41
 have HB := qab.mk (Below.refl w.heap.size w)
 have m2 := Kd.C_max hr2
 cases hg : givenB a0_0 l0_1 l0_2 l0_3 l0_4 l0_5 l1 with
 | false =>
  obtain ⟨rfl, rfl⟩ : r1 = [] ∧ r2 = 2 := by
   unfold playV at hp
   rw [hg] at hp
   injection hp with h1 h2
   exact ⟨h1.symm, h2.symm⟩
  have HGIV : qab (∀ W, Below w.heap.size w W → Calls Try.prog 54 #[.agg #[.int .i64 a0_0, .slice A0_1 l0_1.length c0_1, .slice A0_2 l0_2.length c0_2, .slice A0_3 l0_3.length c0_3, .slice A0_4 l0_4.length c0_4, .slice A0_5 l0_5.length c0_5], .slice A1 l1.length c1] W fun e w' => e = .returned (.tuple #[.pointer none, .bool false]) ∧ Below W.heap.size W w') := ⟨fun W hW => given_false a0_0 A0_1 c0_1 l0_1 A0_2 c0_2 l0_2 A0_3 c0_3 l0_3 A0_4 c0_4 l0_4 A0_5 c0_5 l0_5 A1 c1 l1 W (Kd.qai hr0_1 hW) hc0_1 (Kd.qai hr0_2 hW) hc0_2 (Kd.qai hr0_3 hW) hc0_3 (Kd.qai hr0_4 hW) hc0_4 (Kd.qai hr0_5 hW) hc0_5 (Kd.qai hr1 hW) hc1 hg⟩
  clear hp hg hr0_1 hr0_2 hr0_3 hr0_4 hr0_5 hr1 hr2
  go_enter Try.func18, Try.ntmps18
  go_wp2_with (first | ((with_reducible refine qaq (N := 3) rfl ?_); refine qan ?hg (N := 3) ?hd (cs := #[.int .i64 a0_0, .slice A0_1 l0_1.length c0_1, .slice A0_2 l0_2.length c0_2, .slice A0_3 l0_3.length c0_3, .slice A0_4 l0_4.length c0_4, .slice A0_5 l0_5.length c0_5]) (t := 27) ?hr ?_; (case hd => rfl); (case hg => rfl); (case hr => first | (go_simp; done) | (go_simp; rfl)); intro gb hg_gb w2 hbox hb; have BKgb := qab.mk hbox; have n_HB := qab.mk (qae HB.out hb); have GEgb : w.heap.size ≤ gb := (by rw [hg_gb]; exact HB.out.size); clear HB; have HB := n_HB; clear n_HB; obtain ⟨hfgb, hcgb_0, hcgb_1, hcgb_2, hcgb_3, hcgb_4, hcgb_5⟩ := qz6 BKgb.out; clear hbox hb hg_gb) | (go_at_call 54; (with_reducible refine (HGIV.out _ HB.out).mono ?_); rintro e wn ⟨rfl, hb⟩; replace BKgb := qab.mk (qad BKgb.out hb); replace HB := qab.mk (qae HB.out hb); clear hb; obtain ⟨hfgb, hcgb_0, hcgb_1, hcgb_2, hcgb_3, hcgb_4, hcgb_5⟩ := qz6 BKgb.out))
  go_ret2
  exact ⟨_, rfl, Kd.R_nil _ _ _ _ _, HB.out⟩
 | true =>
  have HV := qab.mk (valid_facts (given_valid hg))
  have hp2 : (if playOk l0_4 l2 = true then (foulV a0_0.toNat l0_1 l0_2 (maskV l1) l2, (0 : Int)) else ([], 2)) = (r1, r2) := by
   rw [← hp]
   unfold playV
   rw [hg, Bool.true_and]
  have HP := qab.mk hp2
  have hn4 := HV.out.n4
  have HGIV : qab (∀ W, Below w.heap.size w W → Calls Try.prog 54 #[.agg #[.int .i64 a0_0, .slice A0_1 l0_1.length c0_1, .slice A0_2 l0_2.length c0_2, .slice A0_3 l0_3.length c0_3, .slice A0_4 l0_4.length c0_4, .slice A0_5 l0_5.length c0_5], .slice A1 l1.length c1] W fun e w' => ∃ g, e = .returned (.tuple #[.pointer (some ⟨g, 0, none⟩), .bool true]) ∧ W.heap.size ≤ g ∧ w'.heap[g]? = some (.cells #[.int .i64 a0_0, .slice A0_1 l0_1.length c0_1, .slice A0_2 l0_2.length c0_2, .slice A0_3 l0_3.length c0_3, .slice A0_4 l0_4.length c0_4, .slice A0_5 l0_5.length c0_5, .int .i64 (maskV l1 : Int)] 123 (0, 0)) ∧ Below W.heap.size W w') := ⟨fun W hW => given_true a0_0 A0_1 c0_1 l0_1 A0_2 c0_2 l0_2 A0_3 c0_3 l0_3 A0_4 c0_4 l0_4 A0_5 c0_5 l0_5 A1 c1 l1 W (Kd.qai hr0_1 hW) hc0_1 (Kd.qai hr0_2 hW) hc0_2 (Kd.qai hr0_3 hW) hc0_3 (Kd.qai hr0_4 hW) hc0_4 (Kd.qai hr0_5 hW) hc0_5 (Kd.qai hr1 hW) hc1 hg⟩
  have HR4 := qab.mk hr0_4
  have HR2 := qab.mk hr2
  by_cases hl : l2.length = l0_4.length
  ·
   have hlb : ((l2.length : Int) != (l0_4.length : Int)) = false := by simp; omega
   have HL := qab.mk hl
   have HFOUG : qab (∀ gd, (∀ W, Below w.heap.size w W → W.heap[gd]? = some (.cells #[.int .i64 a0_0, .slice A0_1 l0_1.length c0_1, .slice A0_2 l0_2.length c0_2, .slice A0_3 l0_3.length c0_3, .slice A0_4 l0_4.length c0_4, .slice A0_5 l0_5.length c0_5, .int .i64 (maskV l1 : Int)] 123 (0, 0)) → Calls Try.prog 56 #[.pointer (some ⟨gd, 0, none⟩), .slice A2 l2.length c2] W fun e w' => ∃ v, e = .returned v ∧ Kd.R (Kd.int .i64) 3 w' W.heap.size (fun _ => True) v (foulV a0_0.toNat l0_1 l0_2 (maskV l1 : Int) l2) ∧ Below W.heap.size W w')) := ⟨fun gd W hW hd => foulG a0_0 A0_1 c0_1 l0_1 A0_2 c0_2 l0_2 A0_3 c0_3 l0_3 A0_4 c0_4 l0_4 A0_5 c0_5 l0_5 (maskV l1 : Int) gd A2 c2 l2 W (Kd.qai hr0_1 hW) hc0_1 (Kd.qai hr0_2 hW) hc0_2 (Kd.qai hr0_3 hW) hc0_3 (Kd.qai hr0_4 hW) hc0_4 (Kd.qai hr0_5 hW) hc0_5 (Kd.qai hr2 hW) (by omega) HV.out hd⟩
   clear hl hp hp2 hg hr0_1 hr0_2 hr0_3 hr0_4 hr0_5 hr1 hr2
   go_enter Try.func18, Try.ntmps18
   go_wp2_with (first | ((with_reducible refine qaq (N := 3) rfl ?_); refine qan ?hg (N := 3) ?hd (cs := #[.int .i64 a0_0, .slice A0_1 l0_1.length c0_1, .slice A0_2 l0_2.length c0_2, .slice A0_3 l0_3.length c0_3, .slice A0_4 l0_4.length c0_4, .slice A0_5 l0_5.length c0_5]) (t := 27) ?hr ?_; (case hd => rfl); (case hg => rfl); (case hr => first | (go_simp; done) | (go_simp; rfl)); intro gb hg_gb w2 hbox hb; have BKgb := qab.mk hbox; have n_HB := qab.mk (qae HB.out hb); have GEgb : w.heap.size ≤ gb := (by rw [hg_gb]; exact HB.out.size); clear HB; have HB := n_HB; clear n_HB; obtain ⟨hfgb, hcgb_0, hcgb_1, hcgb_2, hcgb_3, hcgb_4, hcgb_5⟩ := qz6 BKgb.out; clear hbox hb hg_gb) | (go_at_call 54; (with_reducible refine (HGIV.out _ HB.out).mono ?_); rintro e wn ⟨gd, rfl, GEgd, hbk, hb⟩; have BKgd := qab.mk hbk; clear hbk; have HBo := HB; replace BKgb := qab.mk (qad BKgb.out hb); replace HB := qab.mk (qae HB.out hb); clear hb; have GEd : w.heap.size ≤ gd := Nat.le_trans (by first | exact HBo.out.size | omega) GEgd; obtain ⟨hfgb, hcgb_0, hcgb_1, hcgb_2, hcgb_3, hcgb_4, hcgb_5⟩ := qz6 BKgb.out))
   go_loopw [30] (fun s30 wr => ∃ k : Nat, k ≤ l2.length ∧ s30 = .int .i64 k ∧ qab (∀ j : Nat, j < k → inB (rd l2 j) (qbg l0_4 j).f0 (qbg l0_4 j).f1 = true) ∧ qab (wr.heap[gb]? = some (.cells #[.int .i64 a0_0, .slice A0_1 l0_1.length c0_1, .slice A0_2 l0_2.length c0_2, .slice A0_3 l0_3.length c0_3, .slice A0_4 l0_4.length c0_4, .slice A0_5 l0_5.length c0_5] 27 (0, 0))) ∧ qab (wr.heap[gd]? = some (.cells #[.int .i64 a0_0, .slice A0_1 l0_1.length c0_1, .slice A0_2 l0_2.length c0_2, .slice A0_3 l0_3.length c0_3, .slice A0_4 l0_4.length c0_4, .slice A0_5 l0_5.length c0_5, .int .i64 (maskV l1 : Int)] 123 (0, 0))) ∧ qab (Below w.heap.size w wr)) (fun s _ => l2.length - (intOf s).toNat)
   case atStart => exact ⟨0, by omega, rfl, ⟨fun j h => by omega⟩, BKgb, BKgd, HB⟩
   case round =>
    clear HB BKgb BKgd hfgb hcgb_0 hcgb_1 hcgb_2 hcgb_3 hcgb_4 hcgb_5 HBo GEgd
    obtain ⟨k, hk, rfl, HN, BKgb, BKgd, HB⟩ := hrel
    by_cases hlt : k < l2.length
    ·
     obtain ⟨ad, e, q⟩ := Kd.at_int HR2.out k (by omega) (by omega)
     cases e
     have hk4 : k < l0_4.length := by have := HL.out; omega
     obtain ⟨a4, e, q0, q1⟩ := at_T41 HR4.out k (by omega) (by omega)
     cases e
     simp only [Int.toNat_natCast] at q q0 q1
     obtain ⟨b, hb⟩ : ∃ b, b = inB (rd l2 k) (qbg l0_4 k).f0 (qbg l0_4 k).f1 := ⟨_, rfl⟩
     have HIN : qab (∀ W, Calls Try.prog 55 #[.int .i64 (rd l2 k), .int .i64 (qbg l0_4 k).f0, .int .i64 (qbg l0_4 k).f1] W fun e w' => e = .returned (.bool b) ∧ Below W.heap.size W w') := ⟨fun W => by rw [hb]; exact in_calls _ _ _ W⟩
     have HBV := qab.mk hb
     clear hb
     generalize (qbg l0_4 k).f0 = lo at q0 HIN
     generalize (qbg l0_4 k).f1 = hi at q1 HIN
     generalize rd l2 k = th at q HIN
     have T0 := qab.mk q0
     have T1 := qab.mk q1
     have MC4 : qab (∀ W, Below wr.heap.size wr W → W.cell? ⟨gb, 4, none⟩ = some (.slice (some a4) l0_4.length c0_4)) := ⟨fun W h => (qaa (qad BKgb.out h) 4).trans rfl⟩
     have HT : qab (∀ W, Below wr.heap.size wr W → (W.cell? ⟨gb, 4, none⟩ = some (.slice (some a4) l0_4.length c0_4) ∧ W.cell? (a4.add (k * 2)) = some (.int .i64 lo) ∧ W.cell? ⟨(a4.add (k * 2)).block, (a4.add (k * 2)).off + 1, none⟩ = some (.int .i64 hi) ∧ qab (Below wr.heap.size wr W))) := ⟨fun W h => ⟨MC4.out W h, ((qae HB.out h).cell (World.block_lt_of_cell? w _ T0.out)).trans T0.out, ((qae HB.out h).cell (World.block_lt_of_cell? w _ T1.out)).trans T1.out, ⟨h⟩⟩⟩
     replace q := (HB.out.cell (World.block_lt_of_cell? w _ q)).trans q
     clear q0 q1
     go_upto_region 7 with fail
     cases b with
     | false =>
      obtain ⟨rfl, rfl⟩ : r1 = [] ∧ r2 = 2 := by
       have h1 := HP.out
       rw [if_neg (by rw [playOk_bad k hlt HBV.out.symm]; decide)] at h1
       injection h1 with h1 h2
       exact ⟨h1.symm, h2.symm⟩
      refine start_ (n := 15) (S := (fun w' => (w'.cell? ⟨gb, 4, none⟩ = some (.slice (some a4) l0_4.length c0_4) ∧ w'.cell? (a4.add (k * 2)) = some (.int .i64 lo) ∧ w'.cell? ⟨(a4.add (k * 2)).block, (a4.add (k * 2)).off + 1, none⟩ = some (.int .i64 hi) ∧ qab (Below wr.heap.size wr w')))) (ds := []) (msk 15 0) (by kernel_rfl) rfl rfl (HT.out _ (qbd (Below.refl _ _))) (fun hHeld => ?_)
      refine zq 0 1 35 ?_
      refine zq 1 2 36 ?_
      refine zt4 2 3 37 hHeld ?_
      refine zq 3 4 38 ?_
      refine zq 4 5 39 ?_
      refine zq 5 6 40 ?_
      refine zt4 6 7 41 hHeld ?_
      refine zq 7 8 42 ?_
      refine zt4 8 9 43 hHeld ?_
      refine zq 9 10 44 ?_
      refine zq 10 11 45 ?_
      refine zq 11 12 46 ?_
      refine zt4 12 13 47 hHeld ?_
      refine one_ (i := 13) (N := some 48) (msk 15 14) rfl rfl (by kernel_rfl) (by decide) (fun K hK => ?_)
      refine zg Try.func55 #[.int .i64 th, .int .i64 lo, .int .i64 hi] ?_
      refine (HIN.out _).mono ?_; rintro e w6 ⟨rfl, hb⟩; have HP6 := qab.mk (HT.out w6 (qae hHeld.2.2.2.out hb)); clear hb; refine ⟨_, rfl, ?_⟩; refine hK.out _ _ HP6.out (fun hHeld => ?_); clear hK K; refine zn 48 ?_
      refine zq 14 15 49 ?_
      refine done_ (by kernel_rfl) ?_
      have HZ := HP6.out.2.2.2
      clear HP6 hHeld
      go_wp2
      go_ret2
      exact ⟨_, rfl, Kd.R_nil _ _ _ _ _, qae HB.out HZ.out⟩
     | true =>
      refine start_ (n := 15) (S := (fun w' => (w'.cell? ⟨gb, 4, none⟩ = some (.slice (some a4) l0_4.length c0_4) ∧ w'.cell? (a4.add (k * 2)) = some (.int .i64 lo) ∧ w'.cell? ⟨(a4.add (k * 2)).block, (a4.add (k * 2)).off + 1, none⟩ = some (.int .i64 hi) ∧ qab (Below wr.heap.size wr w')))) (ds := []) (msk 15 0) (by kernel_rfl) rfl rfl (HT.out _ (qbd (Below.refl _ _))) (fun hHeld => ?_)
      refine zq 0 1 35 ?_
      refine zq 1 2 36 ?_
      refine zt4 2 3 37 hHeld ?_
      refine zq 3 4 38 ?_
      refine zq 4 5 39 ?_
      refine zq 5 6 40 ?_
      refine zt4 6 7 41 hHeld ?_
      refine zq 7 8 42 ?_
      refine zt4 8 9 43 hHeld ?_
      refine zq 9 10 44 ?_
      refine zq 10 11 45 ?_
      refine zq 11 12 46 ?_
      refine zt4 12 13 47 hHeld ?_
      refine one_ (i := 13) (N := some 48) (msk 15 14) rfl rfl (by kernel_rfl) (by decide) (fun K hK => ?_)
      refine zg Try.func55 #[.int .i64 th, .int .i64 lo, .int .i64 hi] ?_
      refine (HIN.out _).mono ?_; rintro e w6 ⟨rfl, hb⟩; have HP6 := qab.mk (HT.out w6 (qae hHeld.2.2.2.out hb)); clear hb; refine ⟨_, rfl, ?_⟩; refine hK.out _ _ HP6.out (fun hHeld => ?_); clear hK K; refine zn 48 ?_
      refine zq 14 15 49 ?_
      refine done_ (by kernel_rfl) ?_
      have HZ := HP6.out.2.2.2
      clear HP6 hHeld
      go_wp2
      go_roundw
      case rel => exact ⟨k + 1, by omega, by go_num, ⟨fun j hj => by
       rcases Nat.lt_or_ge j k with h | h
       ·
        exact HN.out j h
       ·
        obtain rfl : j = k := by omega
        exact HBV.out.symm⟩, ⟨qad BKgb.out HZ.out⟩, ⟨qad BKgd.out HZ.out⟩, ⟨qae HB.out HZ.out⟩⟩
      case measure => simp [intOf]; omega
    ·
     obtain ⟨rfl, rfl⟩ : r1 = foulV a0_0.toNat l0_1 l0_2 (maskV l1) l2 ∧ r2 = 0 := by
      have h1 := HP.out
      rw [if_pos (playOk_ok HL.out (fun j hj => HN.out j (by omega)))] at h1
      injection h1 with h1 h2
      exact ⟨h1.symm, h2.symm⟩
     go_wp2_with (go_at_call 56; (with_reducible refine (HFOUG.out gd _ HB.out BKgd.out).mono ?_); rintro e wf ⟨v, rfl, hR, hb⟩; have HRR := qab.mk (Kd.R_lower hR HB.out.size); have HBF := qab.mk (qae HB.out hb); clear hR hb)
     go_ret2
     exact ⟨v, rfl, HRR.out, HBF.out⟩
  ·
   have hlb : ((l2.length : Int) != (l0_4.length : Int)) = true := by simp; omega
   obtain ⟨rfl, rfl⟩ : r1 = [] ∧ r2 = 2 := by
    have h1 := HP.out
    rw [if_neg (by unfold playOk; simp [hl])] at h1
    injection h1 with h1 h2
    exact ⟨h1.symm, h2.symm⟩
   clear hp hp2 hg hr0_1 hr0_2 hr0_3 hr0_4 hr0_5 hr1 hr2
   go_enter Try.func18, Try.ntmps18
   go_wp2_with (first | ((with_reducible refine qaq (N := 3) rfl ?_); refine qan ?hg (N := 3) ?hd (cs := #[.int .i64 a0_0, .slice A0_1 l0_1.length c0_1, .slice A0_2 l0_2.length c0_2, .slice A0_3 l0_3.length c0_3, .slice A0_4 l0_4.length c0_4, .slice A0_5 l0_5.length c0_5]) (t := 27) ?hr ?_; (case hd => rfl); (case hg => rfl); (case hr => first | (go_simp; done) | (go_simp; rfl)); intro gb hg_gb w2 hbox hb; have BKgb := qab.mk hbox; have n_HB := qab.mk (qae HB.out hb); have GEgb : w.heap.size ≤ gb := (by rw [hg_gb]; exact HB.out.size); clear HB; have HB := n_HB; clear n_HB; obtain ⟨hfgb, hcgb_0, hcgb_1, hcgb_2, hcgb_3, hcgb_4, hcgb_5⟩ := qz6 BKgb.out; clear hbox hb hg_gb) | (go_at_call 54; (with_reducible refine (HGIV.out _ HB.out).mono ?_); rintro e wn ⟨gd, rfl, GEgd, hbk, hb⟩; have BKgd := qab.mk hbk; clear hbk; have HBo := HB; replace BKgb := qab.mk (qad BKgb.out hb); replace HB := qab.mk (qae HB.out hb); clear hb; have GEd : w.heap.size ≤ gd := Nat.le_trans (by first | exact HBo.out.size | omega) GEgd; obtain ⟨hfgb, hcgb_0, hcgb_1, hcgb_2, hcgb_3, hcgb_4, hcgb_5⟩ := qz6 BKgb.out))
   go_ret2
   exact ⟨_, rfl, Kd.R_nil _ _ _ _ _, HB.out⟩
end Go.Proofs.Ytafkanmioinbiaa.SA
namespace Go.Proofs.Ytafkanmioinbiaa.SA
open Go.RowKit Go.Proofs.YtafkanmioinbiaaW.PrintWords Go.Proofs.YtafkanmioinbiaaW.PrintLast Go.Proofs.YtafkanmioinbiaaW.PrintMore
attribute [local go_sem] max2_int min2_int max_two min_two qbe qbf max_four min_four
def talikref07_Same.l0 : Nat → List Int → List Int → Int → Option (Bool)
 | 0, _, _, _ => none
 | k + 1, x0, x1, x5 => if x5 < (x0.length : Int) then (if 0 ≤ x5 then (if x5 < (x1.length : Int) then (if (rd x0 x5) = (rd x1 x5) then (talikref07_Same.l0 k x0 x1 (wrap64 (x5 + 1))) else (some false)) else (none)) else (none)) else (some true)
def talikref07_Same.f (k : Nat) (l0 : List Int) (l1 : List Int) : Option (Bool) := if (l0.length : Int) = (l1.length : Int) then (talikref07_Same.l0 k l0 l1 0) else (some false)
theorem talikref07_Same.calls (k : Nat) (A0 : Option Addr) (c0 : Nat) (l0 : List Int) (A1 : Option Addr) (c1 : Nat) (l1 : List Int) (r : Bool) (w : World) (hr0 : Kd.C (Kd.int .i64) w A0 l0.length l0) (hc0 : l0.length ≤ c0) (hr1 : Kd.C (Kd.int .i64) w A1 l1.length l1) (hc1 : l1.length ≤ c1) (h : talikref07_Same.f k l0 l1 = some r) :
  Calls Try.prog 21 #[.slice A0 l0.length c0, .slice A1 l1.length c1] w fun e w' => e = .returned (.bool r) ∧ Drawn0 w w' := by
 have HR0 := qab.mk hr0
 have HC0 := qab.mk hc0
 clear hr0 hc0
 have HR1 := qab.mk hr1
 have HC1 := qab.mk hc1
 clear hr1 hc1
 have H : (if (l0.length : Int) = (l1.length : Int) then (talikref07_Same.l0 k l0 l1 0) else (some false)) = some r := h
 clear h
 by_cases c3 : (l0.length : Int) = (l1.length : Int)
 ·
  rw [if_pos c3] at H
  have c3b0 : ((l0.length : Int) == (l1.length : Int)) = true := beq_iff_eq.mpr c3
  have c3b1 : ((l0.length : Int) != (l1.length : Int)) = false := bne_eq_false_iff_eq.mpr c3
  have c3b2 : (l0.length == l1.length) = true := by first | simpa using c3 | (simp at c3 ⊢; omega)
  clear c3
  have H' := qab.mk H
  clear H
  go_enter Try.func21, Try.ntmps21
  go_wp2
  repeat (go_quiet (fail); try go_wp2)
  go_loopg [5] k (fun kq v5 w' => ∃ (x5_1 : Int), v5 = .int .i64 x5_1 ∧ qab (talikref07_Same.l0 kq l0 l1 x5_1 = some r) ∧ qab (kq ≤ k) ∧ Drawn0 w w')
  case atStart => exact ⟨(0), (by first | rfl | (simp; done) | (simp [*]; done)), H', ⟨Nat.le_refl _⟩, by repeat (first | exact Drawn0.refl _ | apply Drawn0.step)⟩
  case round =>
   clear H'
   try clear c1
   try clear c2
   try clear p2
   try clear c3
   try clear c3b0
   try clear c3b1
   try clear c3b2
   obtain ⟨x5_1, rfl, HA, HK1, ⟨m1, rfl⟩⟩ := hrel
   cases gk with
   | zero => exact absurd HA.out (by simp [talikref07_Same.l0])
   | succ k1 =>
    have H := HA.out
    clear HA
    simp only [talikref07_Same.l0] at H
    by_cases c4 : x5_1 < (l0.length : Int)
    ·
     rw [if_pos c4] at H
     have c4b0 : decide (x5_1 < (l0.length : Int)) = true := decide_eq_true c4
     clear c4
     by_cases c5 : 0 ≤ x5_1
     ·
      rw [if_pos c5] at H
      have c5b0 : decide (0 ≤ x5_1) = true := decide_eq_true c5
      clear c5
      by_cases c6 : x5_1 < (l1.length : Int)
      ·
       rw [if_pos c6] at H
       have c6b0 : decide (x5_1 < (l1.length : Int)) = true := decide_eq_true c6
       clear c6
       by_cases c7 : (rd l0 x5_1) = (rd l1 x5_1)
       ·
        rw [if_pos c7] at H
        have c7b0 : ((rd l0 x5_1) == (rd l1 x5_1)) = true := beq_iff_eq.mpr c7
        have c7b1 : ((rd l0 x5_1) != (rd l1 x5_1)) = false := bne_eq_false_iff_eq.mpr c7
        clear c7
        have H' := qab.mk H
        clear H
        have p117 : 0 ≤ (x5_1 : Int) := of_decide_eq_true (by first | (with_reducible assumption) | assumption)
        have q117 : x5_1 < (l0.length : Int) := of_decide_eq_true (by first | (with_reducible assumption) | assumption)
        obtain ⟨ad117, e117, hx117_0⟩ := Kd.at_int HR0.out x5_1 p117 q117
        cases e117
        replace p117 := eq_true p117
        replace q117 := eq_true q117
        have p118 : 0 ≤ (x5_1 : Int) := of_decide_eq_true (by first | (with_reducible assumption) | assumption)
        have q118 : x5_1 < (l1.length : Int) := of_decide_eq_true (by first | (with_reducible assumption) | assumption)
        obtain ⟨ad118, e118, hx118_0⟩ := Kd.at_int HR1.out x5_1 p118 q118
        cases e118
        replace p118 := eq_true p118
        replace q118 := eq_true q118
        go_wp2
        repeat (go_quiet (fail); try go_wp2)
        go_roundg k1
        case measure => have := HK1.out; omega
        case rel => exact ⟨(wrap64 (x5_1 + 1)), (by first | rfl | (simp; done) | (simp [*]; done)), H', ⟨by have := HK1.out; omega⟩, by repeat (first | exact Drawn0.refl _ | apply Drawn0.step)⟩
       ·
        rw [if_neg c7] at H
        have c7b0 : ((rd l0 x5_1) == (rd l1 x5_1)) = false := beq_eq_false_iff_ne.mpr c7
        have c7b1 : ((rd l0 x5_1) != (rd l1 x5_1)) = true := bne_iff_ne.mpr c7
        obtain rfl := Option.some.inj H
        have p117 : 0 ≤ (x5_1 : Int) := of_decide_eq_true (by first | (with_reducible assumption) | assumption)
        have q117 : x5_1 < (l0.length : Int) := of_decide_eq_true (by first | (with_reducible assumption) | assumption)
        obtain ⟨ad117, e117, hx117_0⟩ := Kd.at_int HR0.out x5_1 p117 q117
        cases e117
        replace p117 := eq_true p117
        replace q117 := eq_true q117
        have p118 : 0 ≤ (x5_1 : Int) := of_decide_eq_true (by first | (with_reducible assumption) | assumption)
        have q118 : x5_1 < (l1.length : Int) := of_decide_eq_true (by first | (with_reducible assumption) | assumption)
        obtain ⟨ad118, e118, hx118_0⟩ := Kd.at_int HR1.out x5_1 p118 q118
        cases e118
        replace p118 := eq_true p118
        replace q118 := eq_true q118
        go_wp2
        repeat (go_quiet (fail); try go_wp2)
        go_ret
        exact ⟨by first | rfl | (simp; done) | (simp [*]; done), by repeat (first | exact Drawn0.refl _ | apply Drawn0.step)⟩
      ·
       rw [if_neg c6] at H
       exact absurd H (by simp)
     ·
      rw [if_neg c5] at H
      exact absurd H (by simp)
    ·
     rw [if_neg c4] at H
     have c4b0 : decide (x5_1 < (l0.length : Int)) = false := decide_eq_false c4
     clear c4
     obtain rfl := Option.some.inj H
     go_wp2
     repeat (go_quiet (fail); try go_wp2)
     go_ret
     exact ⟨by first | rfl | (simp; done) | (simp [*]; done), by repeat (first | exact Drawn0.refl _ | apply Drawn0.step)⟩
 ·
  rw [if_neg c3] at H
  have c3b0 : ((l0.length : Int) == (l1.length : Int)) = false := beq_eq_false_iff_ne.mpr c3
  have c3b1 : ((l0.length : Int) != (l1.length : Int)) = true := bne_iff_ne.mpr c3
  have c3b2 : (l0.length == l1.length) = false := by first | simpa using c3 | (simp at c3 ⊢; omega)
  obtain rfl := Option.some.inj H
  go_enter Try.func21, Try.ntmps21
  go_wp2
  repeat (go_quiet (fail); try go_wp2)
  go_ret
  exact ⟨by first | rfl | (simp; done) | (simp [*]; done), by repeat (first | exact Drawn0.refl _ | apply Drawn0.step)⟩
theorem eqA41 (d : Nat) (w : World) (x0 y0 : Int) (x1 y1 : Int) :
  (Op.equalIn (d + 2) 41 (.agg #[.int .i64 x0, .int .i64 x1]) (.agg #[.int .i64 y0, .int .i64 y1])).run Try.prog w = .ok (x0 == y0 && (x1 == y1)) w := by
 refine eqA_of Try.underlying41 (by kernel_rfl) ?_
 refine eqf_cons (by rfl) (by go_simp; rfl) (by go_simp; rfl) (by go_simp) ?_
 exact eqf_last (by rfl) (by go_simp; rfl) (by go_simp; rfl) (by go_simp)
end Go.Proofs.Ytafkanmioinbiaa.SA
namespace Go.Proofs.Ytafkanmioinbiaa.SA
open Go.RowKit Go.Proofs.YtafkanmioinbiaaW.PrintWords Go.Proofs.YtafkanmioinbiaaW.PrintLast Go.Proofs.YtafkanmioinbiaaW.PrintMore
attribute [local go_sem] max2_int min2_int max_two min_two qbe qbf max_four min_four
attribute [local go_sem high] eqA41
def talikref07_SameSpans.l0 : Nat → List (S41) → List (S41) → Int → Option (Bool)
 | 0, _, _, _ => none
 | k + 1, x0, x1, x5 => if x5 < (x0.length : Int) then (if 0 ≤ x5 then (if x5 < (x1.length : Int) then (if (!(((qbg x0 x5).f0) == ((qbg x1 x5).f0)) || (!(((qbg x0 x5).f1) == ((qbg x1 x5).f1)))) = true then (some false) else (talikref07_SameSpans.l0 k x0 x1 (wrap64 (x5 + 1)))) else (none)) else (none)) else (some true)
def talikref07_SameSpans.f (k : Nat) (l0 : List (S41)) (l1 : List (S41)) : Option (Bool) := if (l0.length : Int) = (l1.length : Int) then (talikref07_SameSpans.l0 k l0 l1 0) else (some false)
theorem talikref07_SameSpans.calls (k : Nat) (A0 : Option Addr) (c0 : Nat) (l0 : List (S41)) (A1 : Option Addr) (c1 : Nat) (l1 : List (S41)) (r : Bool) (w : World) (hr0 : Kd.C k41 w A0 l0.length l0) (hc0 : l0.length ≤ c0) (hr1 : Kd.C k41 w A1 l1.length l1) (hc1 : l1.length ≤ c1) (h : talikref07_SameSpans.f k l0 l1 = some r) :
  Calls Try.prog 46 #[.slice A0 l0.length c0, .slice A1 l1.length c1] w fun e w' => e = .returned (.bool r) ∧ Drawn0 w w' := by
 have hu41 := Try.underlying41
 have HR0 := qab.mk hr0
 have HC0 := qab.mk hc0
 clear hr0 hc0
 have HR1 := qab.mk hr1
 have HC1 := qab.mk hc1
 clear hr1 hc1
 have H : (if (l0.length : Int) = (l1.length : Int) then (talikref07_SameSpans.l0 k l0 l1 0) else (some false)) = some r := h
 clear h
 by_cases c3 : (l0.length : Int) = (l1.length : Int)
 ·
  rw [if_pos c3] at H
  have c3b0 : ((l0.length : Int) == (l1.length : Int)) = true := beq_iff_eq.mpr c3
  have c3b1 : ((l0.length : Int) != (l1.length : Int)) = false := bne_eq_false_iff_eq.mpr c3
  have c3b2 : (l0.length == l1.length) = true := by first | simpa using c3 | (simp at c3 ⊢; omega)
  clear c3
  have H' := qab.mk H
  clear H
  go_enter Try.func46, Try.ntmps46
  go_wp2
  repeat (go_quiet (fail); try go_wp2)
  go_loopg [5] k (fun kq v5 w' => ∃ (x5_1 : Int), v5 = .int .i64 x5_1 ∧ qab (talikref07_SameSpans.l0 kq l0 l1 x5_1 = some r) ∧ qab (kq ≤ k) ∧ Drawn0 w w')
  case atStart => exact ⟨(0), (by first | rfl | (simp; done) | (simp [*]; done)), H', ⟨Nat.le_refl _⟩, by repeat (first | exact Drawn0.refl _ | apply Drawn0.step)⟩
  case round =>
   clear H'
   try clear c1
   try clear p2
   try clear c3
   try clear c3b0
   try clear c3b1
   try clear c3b2
   obtain ⟨x5_1, rfl, HA, HK1, ⟨m1, rfl⟩⟩ := hrel
   cases gk with
   | zero => exact absurd HA.out (by simp [talikref07_SameSpans.l0])
   | succ k1 =>
    have H := HA.out
    clear HA
    simp only [talikref07_SameSpans.l0] at H
    by_cases c4 : x5_1 < (l0.length : Int)
    ·
     rw [if_pos c4] at H
     have c4b0 : decide (x5_1 < (l0.length : Int)) = true := decide_eq_true c4
     clear c4
     by_cases c5 : 0 ≤ x5_1
     ·
      rw [if_pos c5] at H
      have c5b0 : decide (0 ≤ x5_1) = true := decide_eq_true c5
      clear c5
      by_cases c6 : x5_1 < (l1.length : Int)
      ·
       rw [if_pos c6] at H
       have c6b0 : decide (x5_1 < (l1.length : Int)) = true := decide_eq_true c6
       clear c6
       by_cases c7 : (!(((qbg l0 x5_1).f0) == ((qbg l1 x5_1).f0)) || (!(((qbg l0 x5_1).f1) == ((qbg l1 x5_1).f1)))) = true
       ·
        rw [if_pos c7] at H
        have c7b0 : (!(((qbg l0 x5_1).f0) == ((qbg l1 x5_1).f0)) || (!(((qbg l0 x5_1).f1) == ((qbg l1 x5_1).f1)))) = true := c7
        clear c7
        obtain rfl := Option.some.inj H
        have p150 : 0 ≤ (x5_1 : Int) := of_decide_eq_true (by first | (with_reducible assumption) | assumption)
        have q150 : x5_1 < (l0.length : Int) := of_decide_eq_true (by first | (with_reducible assumption) | assumption)
        obtain ⟨ad150, e150, hx150_0, hx150_1⟩ := at_T41 HR0.out x5_1 p150 q150
        cases e150
        replace p150 := eq_true p150
        replace q150 := eq_true q150
        have p151 : 0 ≤ (x5_1 : Int) := of_decide_eq_true (by first | (with_reducible assumption) | assumption)
        have q151 : x5_1 < (l1.length : Int) := of_decide_eq_true (by first | (with_reducible assumption) | assumption)
        obtain ⟨ad151, e151, hx151_0, hx151_1⟩ := at_T41 HR1.out x5_1 p151 q151
        cases e151
        replace p151 := eq_true p151
        replace q151 := eq_true q151
        go_wp2
        repeat (go_quiet (fail); try go_wp2)
        go_ret
        exact ⟨by first | rfl | (simp; done) | (simp [*]; done), by repeat (first | exact Drawn0.refl _ | apply Drawn0.step)⟩
       ·
        rw [if_neg c7] at H
        have c7b0 : (!(((qbg l0 x5_1).f0) == ((qbg l1 x5_1).f0)) || (!(((qbg l0 x5_1).f1) == ((qbg l1 x5_1).f1)))) = false := by simpa using c7
        clear c7
        have H' := qab.mk H
        clear H
        have p150 : 0 ≤ (x5_1 : Int) := of_decide_eq_true (by first | (with_reducible assumption) | assumption)
        have q150 : x5_1 < (l0.length : Int) := of_decide_eq_true (by first | (with_reducible assumption) | assumption)
        obtain ⟨ad150, e150, hx150_0, hx150_1⟩ := at_T41 HR0.out x5_1 p150 q150
        cases e150
        replace p150 := eq_true p150
        replace q150 := eq_true q150
        have p151 : 0 ≤ (x5_1 : Int) := of_decide_eq_true (by first | (with_reducible assumption) | assumption)
        have q151 : x5_1 < (l1.length : Int) := of_decide_eq_true (by first | (with_reducible assumption) | assumption)
        obtain ⟨ad151, e151, hx151_0, hx151_1⟩ := at_T41 HR1.out x5_1 p151 q151
        cases e151
        replace p151 := eq_true p151
        replace q151 := eq_true q151
        go_wp2
        repeat (go_quiet (fail); try go_wp2)
        go_roundg k1
        case measure => have := HK1.out; omega
        case rel => exact ⟨(wrap64 (x5_1 + 1)), (by first | rfl | (simp; done) | (simp [*]; done)), H', ⟨by have := HK1.out; omega⟩, by repeat (first | exact Drawn0.refl _ | apply Drawn0.step)⟩
      ·
       rw [if_neg c6] at H
       exact absurd H (by simp)
     ·
      rw [if_neg c5] at H
      exact absurd H (by simp)
    ·
     rw [if_neg c4] at H
     have c4b0 : decide (x5_1 < (l0.length : Int)) = false := decide_eq_false c4
     clear c4
     obtain rfl := Option.some.inj H
     go_wp2
     repeat (go_quiet (fail); try go_wp2)
     go_ret
     exact ⟨by first | rfl | (simp; done) | (simp [*]; done), by repeat (first | exact Drawn0.refl _ | apply Drawn0.step)⟩
 ·
  rw [if_neg c3] at H
  have c3b0 : ((l0.length : Int) == (l1.length : Int)) = false := beq_eq_false_iff_ne.mpr c3
  have c3b1 : ((l0.length : Int) != (l1.length : Int)) = true := bne_iff_ne.mpr c3
  have c3b2 : (l0.length == l1.length) = false := by first | simpa using c3 | (simp at c3 ⊢; omega)
  obtain rfl := Option.some.inj H
  go_enter Try.func46, Try.ntmps46
  go_wp2
  repeat (go_quiet (fail); try go_wp2)
  go_ret
  exact ⟨by first | rfl | (simp; done) | (simp [*]; done), by repeat (first | exact Drawn0.refl _ | apply Drawn0.step)⟩
def taliklaw07_span.f (a0 : Int) (a1 : Int) : Option (Int × Int) := some (a0, a1)
theorem taliklaw07_span.calls (a0 : Int) (a1 : Int) (r1 : Int) (r2 : Int) (w : World) (h : taliklaw07_span.f a0 a1 = some (r1, r2)) :
  Calls Try.prog 50 #[.int .i64 a0, .int .i64 a1] w fun e w' => e = .returned (.agg #[.int .i64 r1, .int .i64 r2]) ∧ Below w.heap.size w w' := by
 have hu41 := Try.underlying41
 have HB := qab.mk (Below.refl w.heap.size w)
 have H : (some (a0, a1)) = some (r1, r2) := h
 clear h
 simp only [Option.some.injEq, Prod.mk.injEq] at H
 obtain ⟨rfl, rfl⟩ := H
 go_enter Try.func50, Try.ntmps50
 go_wp2_with (first | ((with_reducible refine qaq (N := 4) rfl ?_); refine qan ?hg (N := 4) ?hd (cs := #[.int .i64 0, .int .i64 0]) (t := 41) ?hr ?_; (case hd => rfl); (case hg => rfl); (case hr => first | (go_simp; done) | (go_simp; rfl)); intro gb152 hg w3 hbox hb; have n0_ := qab.mk (qae (zb HB.out) hb); have n1_ := qab.mk (hbox); have n2_ := qab.mk ((by rw [hg]; exact (qay (zb HB.out)) : w.heap.size ≤ gb152)); have n3_ := qab.mk ((by rw [hg]; exact (qay (zb HB.out)) : w.heap.size ≤ gb152)); clear HB; have HB := n0_; have BK152 := n1_; have GW152 := n2_; have GE152 := n3_; clear n0_ n1_ n2_ n3_; clear hb hbox hg; have hcz4_0 : w3.cell? ⟨gb152, 0, none⟩ = some (.int .i64 0) := (qaa BK152.out 0).trans rfl; have hcz4_1 : w3.cell? ⟨gb152, 1, none⟩ = some (.int .i64 0) := (qaa BK152.out 1).trans rfl; have hfz4_0 := qac BK152.out 0; have hfz4_1 := qac BK152.out 1))
 refine bodyPost_ret (results_cell_row rfl _ _ gb152 41 #[.int .i64 a0, .int .i64 a1] (0, 0) _ rfl (by (with_reducible repeat (first | refine qar ?_ _ | refine qav ?_ | refine qao ?_ _)); refine blk_put (cs := #[.int .i64 a0, .int .i64 0]) ?_ 1 _ rfl; (with_reducible repeat (first | refine qar ?_ _ | refine qav ?_ | refine qao ?_ _)); refine blk_put (cs := #[.int .i64 0, .int .i64 0]) ?_ 0 _ rfl; (with_reducible repeat (first | refine qar ?_ _ | refine qav ?_ | refine qao ?_ _)); exact BK152.out) Try.underlying41 rfl (by kernel_rfl)) rfl ?_
 exact ⟨by first | rfl | (simp [qaz, qba] <;> rfl) | (simp [*, qaz, qba] <;> rfl), by repeat (first | (with_reducible first | exact HB.out | apply qag | apply qaf | apply qah | refine qaj ?_ GE152.out) | exact HB.out)⟩
def taliklaw07_M.f  : Option (Int × (List (S44)) × List Int × List Int × (List (S41)) × (List (S95))) := (taliklaw07_span.f 500 650).bind fun bt163 => ((taliklaw07_span.f 550 750).bind fun bt165 => ((taliklaw07_span.f 600 850).bind fun bt167 => ((taliklaw07_span.f 650 950).bind fun bt169 => ((taliklaw07_span.f 100 120).bind fun bt174 => ((taliklaw07_span.f 10 20).bind fun bt176 => ((taliklaw07_span.f 200 250).bind fun bt178 => ((taliklaw07_span.f 90 130).bind fun bt180 => ((taliklaw07_span.f 400 400).bind fun bt182 => ((taliklaw07_span.f 300 400).bind fun bt184 => (some (5, (([(⟨0, 1, 0, 300⟩ : S44), (⟨1, 3, 900, 500⟩ : S44), (⟨0, 2, 600, 200⟩ : S44), (⟨2, 3, 700, 250⟩ : S44), (⟨2, 4, 0, (-1)⟩ : S44), (⟨1, 2, 800, 100⟩ : S44)] : List (S44))), (([0] : List Int)), (([3] : List Int)), (([(⟨bt163.1, bt163.2⟩ : S41), (⟨bt165.1, bt165.2⟩ : S41), (⟨bt167.1, bt167.2⟩ : S41), (⟨bt169.1, bt169.2⟩ : S41)] : List (S41))), (([(⟨1, 620, (⟨bt174.1, bt174.2⟩ : S41), (⟨bt176.1, bt176.2⟩ : S41)⟩ : S95), (⟨2, 5000, (⟨bt178.1, bt178.2⟩ : S41), (⟨bt180.1, bt180.2⟩ : S41)⟩ : S95), (⟨(-1), 5000, (⟨bt182.1, bt182.2⟩ : S41), (⟨bt184.1, bt184.2⟩ : S41)⟩ : S95)] : List (S95))))))))))))))
theorem taliklaw07_M.calls  (r1 : Int) (r2 : List (S44)) (r3 : List Int) (r4 : List Int) (r5 : List (S41)) (r6 : List (S95)) (w : World) (h : taliklaw07_M.f  = some (r1, r2, r3, r4, r5, r6)) :
  Calls Try.prog 53 #[] w fun e w' => ∃ v1_ v2_ v3_ v4_ v5_ : Value, e = .returned (.agg #[.int .i64 r1, v1_, v2_, v3_, v4_, v5_]) ∧ Kd.R k44 44 w' w.heap.size (fun _ => True) v1_ r2 ∧ Kd.R (Kd.int .i64) 3 w' w.heap.size (fun k_ => some k_ ≠ (v3_ : Value).ownBlock) v2_ r3 ∧ Kd.R (Kd.int .i64) 3 w' w.heap.size (fun k_ => some k_ ≠ (v2_ : Value).ownBlock) v3_ r4 ∧ Kd.R k41 41 w' w.heap.size (fun _ => True) v4_ r5 ∧ Kd.R k95 95 w' w.heap.size (fun _ => True) v5_ r6 ∧ Below w.heap.size w w' := by
 have hu27 := Try.underlying27
 have hu44 := Try.underlying44
 have hu95 := Try.underlying95
 have HB := qab.mk (Below.refl w.heap.size w)
 have H : ((taliklaw07_span.f 500 650).bind fun bt163 => ((taliklaw07_span.f 550 750).bind fun bt165 => ((taliklaw07_span.f 600 850).bind fun bt167 => ((taliklaw07_span.f 650 950).bind fun bt169 => ((taliklaw07_span.f 100 120).bind fun bt174 => ((taliklaw07_span.f 10 20).bind fun bt176 => ((taliklaw07_span.f 200 250).bind fun bt178 => ((taliklaw07_span.f 90 130).bind fun bt180 => ((taliklaw07_span.f 400 400).bind fun bt182 => ((taliklaw07_span.f 300 400).bind fun bt184 => (some (5, (([(⟨0, 1, 0, 300⟩ : S44), (⟨1, 3, 900, 500⟩ : S44), (⟨0, 2, 600, 200⟩ : S44), (⟨2, 3, 700, 250⟩ : S44), (⟨2, 4, 0, (-1)⟩ : S44), (⟨1, 2, 800, 100⟩ : S44)] : List (S44))), (([0] : List Int)), (([3] : List Int)), (([(⟨bt163.1, bt163.2⟩ : S41), (⟨bt165.1, bt165.2⟩ : S41), (⟨bt167.1, bt167.2⟩ : S41), (⟨bt169.1, bt169.2⟩ : S41)] : List (S41))), (([(⟨1, 620, (⟨bt174.1, bt174.2⟩ : S41), (⟨bt176.1, bt176.2⟩ : S41)⟩ : S95), (⟨2, 5000, (⟨bt178.1, bt178.2⟩ : S41), (⟨bt180.1, bt180.2⟩ : S41)⟩ : S95), (⟨(-1), 5000, (⟨bt182.1, bt182.2⟩ : S41), (⟨bt184.1, bt184.2⟩ : S41)⟩ : S95)] : List (S95))))))))))))))) = some (r1, r2, r3, r4, r5, r6) := h
 clear h
 obtain ⟨y154, hy154⟩ : ∃ y_ : List (S44), y_ = (([(⟨0, 1, 0, 300⟩ : S44), (⟨1, 3, 900, 500⟩ : S44), (⟨0, 2, 600, 200⟩ : S44), (⟨2, 3, 700, 250⟩ : S44), (⟨2, 4, 0, (-1)⟩ : S44), (⟨1, 2, 800, 100⟩ : S44)] : List (S44))) := ⟨_, rfl⟩
 replace H : ((taliklaw07_span.f 500 650).bind fun bt163 => ((taliklaw07_span.f 550 750).bind fun bt165 => ((taliklaw07_span.f 600 850).bind fun bt167 => ((taliklaw07_span.f 650 950).bind fun bt169 => ((taliklaw07_span.f 100 120).bind fun bt174 => ((taliklaw07_span.f 10 20).bind fun bt176 => ((taliklaw07_span.f 200 250).bind fun bt178 => ((taliklaw07_span.f 90 130).bind fun bt180 => ((taliklaw07_span.f 400 400).bind fun bt182 => ((taliklaw07_span.f 300 400).bind fun bt184 => (some (5, y154, (([0] : List Int)), (([3] : List Int)), (([(⟨bt163.1, bt163.2⟩ : S41), (⟨bt165.1, bt165.2⟩ : S41), (⟨bt167.1, bt167.2⟩ : S41), (⟨bt169.1, bt169.2⟩ : S41)] : List (S41))), (([(⟨1, 620, (⟨bt174.1, bt174.2⟩ : S41), (⟨bt176.1, bt176.2⟩ : S41)⟩ : S95), (⟨2, 5000, (⟨bt178.1, bt178.2⟩ : S41), (⟨bt180.1, bt180.2⟩ : S41)⟩ : S95), (⟨(-1), 5000, (⟨bt182.1, bt182.2⟩ : S41), (⟨bt184.1, bt184.2⟩ : S41)⟩ : S95)] : List (S95))))))))))))))) = some (r1, r2, r3, r4, r5, r6) := by first | (rw [hy154]; with_reducible exact H) | (have H2_ := (Option.bind_some _ _).symm.trans H; rw [hy154]; with_reducible exact H2_) | (have H2_ := (Option.bind_some _ _).symm.trans H; with_reducible exact H2_) | with_reducible exact H | (rw [hy154]; exact H) | exact H
 have Ny154 := qab.mk hy154
 clear hy154
 obtain ⟨y157, hy157⟩ : ∃ y_ : List Int, y_ = (([0] : List Int)) := ⟨_, rfl⟩
 replace H : ((taliklaw07_span.f 500 650).bind fun bt163 => ((taliklaw07_span.f 550 750).bind fun bt165 => ((taliklaw07_span.f 600 850).bind fun bt167 => ((taliklaw07_span.f 650 950).bind fun bt169 => ((taliklaw07_span.f 100 120).bind fun bt174 => ((taliklaw07_span.f 10 20).bind fun bt176 => ((taliklaw07_span.f 200 250).bind fun bt178 => ((taliklaw07_span.f 90 130).bind fun bt180 => ((taliklaw07_span.f 400 400).bind fun bt182 => ((taliklaw07_span.f 300 400).bind fun bt184 => (some (5, y154, y157, (([3] : List Int)), (([(⟨bt163.1, bt163.2⟩ : S41), (⟨bt165.1, bt165.2⟩ : S41), (⟨bt167.1, bt167.2⟩ : S41), (⟨bt169.1, bt169.2⟩ : S41)] : List (S41))), (([(⟨1, 620, (⟨bt174.1, bt174.2⟩ : S41), (⟨bt176.1, bt176.2⟩ : S41)⟩ : S95), (⟨2, 5000, (⟨bt178.1, bt178.2⟩ : S41), (⟨bt180.1, bt180.2⟩ : S41)⟩ : S95), (⟨(-1), 5000, (⟨bt182.1, bt182.2⟩ : S41), (⟨bt184.1, bt184.2⟩ : S41)⟩ : S95)] : List (S95))))))))))))))) = some (r1, r2, r3, r4, r5, r6) := by first | (rw [hy157]; with_reducible exact H) | (have H2_ := (Option.bind_some _ _).symm.trans H; rw [hy157]; with_reducible exact H2_) | (have H2_ := (Option.bind_some _ _).symm.trans H; with_reducible exact H2_) | with_reducible exact H | (rw [hy157]; exact H) | exact H
 have Ny157 := qab.mk hy157
 clear hy157
 obtain ⟨y160, hy160⟩ : ∃ y_ : List Int, y_ = (([3] : List Int)) := ⟨_, rfl⟩
 replace H : ((taliklaw07_span.f 500 650).bind fun bt163 => ((taliklaw07_span.f 550 750).bind fun bt165 => ((taliklaw07_span.f 600 850).bind fun bt167 => ((taliklaw07_span.f 650 950).bind fun bt169 => ((taliklaw07_span.f 100 120).bind fun bt174 => ((taliklaw07_span.f 10 20).bind fun bt176 => ((taliklaw07_span.f 200 250).bind fun bt178 => ((taliklaw07_span.f 90 130).bind fun bt180 => ((taliklaw07_span.f 400 400).bind fun bt182 => ((taliklaw07_span.f 300 400).bind fun bt184 => (some (5, y154, y157, y160, (([(⟨bt163.1, bt163.2⟩ : S41), (⟨bt165.1, bt165.2⟩ : S41), (⟨bt167.1, bt167.2⟩ : S41), (⟨bt169.1, bt169.2⟩ : S41)] : List (S41))), (([(⟨1, 620, (⟨bt174.1, bt174.2⟩ : S41), (⟨bt176.1, bt176.2⟩ : S41)⟩ : S95), (⟨2, 5000, (⟨bt178.1, bt178.2⟩ : S41), (⟨bt180.1, bt180.2⟩ : S41)⟩ : S95), (⟨(-1), 5000, (⟨bt182.1, bt182.2⟩ : S41), (⟨bt184.1, bt184.2⟩ : S41)⟩ : S95)] : List (S95))))))))))))))) = some (r1, r2, r3, r4, r5, r6) := by first | (rw [hy160]; with_reducible exact H) | (have H2_ := (Option.bind_some _ _).symm.trans H; rw [hy160]; with_reducible exact H2_) | (have H2_ := (Option.bind_some _ _).symm.trans H; with_reducible exact H2_) | with_reducible exact H | (rw [hy160]; exact H) | exact H
 have Ny160 := qab.mk hy160
 clear hy160
 replace H := Option.bind_eq_some_iff.mp H
 obtain ⟨⟨t163, t164⟩, A10, H⟩ := H
 try dsimp only at H
 have A1 := qab.mk A10
 clear A10
 replace H := Option.bind_eq_some_iff.mp H
 obtain ⟨⟨t165, t166⟩, A20, H⟩ := H
 try dsimp only at H
 have A2 := qab.mk A20
 clear A20
 replace H := Option.bind_eq_some_iff.mp H
 obtain ⟨⟨t167, t168⟩, A30, H⟩ := H
 try dsimp only at H
 have A3 := qab.mk A30
 clear A30
 replace H := Option.bind_eq_some_iff.mp H
 obtain ⟨⟨t169, t170⟩, A40, H⟩ := H
 try dsimp only at H
 have A4 := qab.mk A40
 clear A40
 obtain ⟨y171, hy171⟩ : ∃ y_ : List (S41), y_ = (([(⟨t163, t164⟩ : S41), (⟨t165, t166⟩ : S41), (⟨t167, t168⟩ : S41), (⟨t169, t170⟩ : S41)] : List (S41))) := ⟨_, rfl⟩
 replace H : ((taliklaw07_span.f 100 120).bind fun bt174 => ((taliklaw07_span.f 10 20).bind fun bt176 => ((taliklaw07_span.f 200 250).bind fun bt178 => ((taliklaw07_span.f 90 130).bind fun bt180 => ((taliklaw07_span.f 400 400).bind fun bt182 => ((taliklaw07_span.f 300 400).bind fun bt184 => (some (5, y154, y157, y160, y171, (([(⟨1, 620, (⟨bt174.1, bt174.2⟩ : S41), (⟨bt176.1, bt176.2⟩ : S41)⟩ : S95), (⟨2, 5000, (⟨bt178.1, bt178.2⟩ : S41), (⟨bt180.1, bt180.2⟩ : S41)⟩ : S95), (⟨(-1), 5000, (⟨bt182.1, bt182.2⟩ : S41), (⟨bt184.1, bt184.2⟩ : S41)⟩ : S95)] : List (S95))))))))))) = some (r1, r2, r3, r4, r5, r6) := by first | (rw [hy171]; with_reducible exact H) | (have H2_ := (Option.bind_some _ _).symm.trans H; rw [hy171]; with_reducible exact H2_) | (have H2_ := (Option.bind_some _ _).symm.trans H; with_reducible exact H2_) | with_reducible exact H | (rw [hy171]; exact H) | exact H
 have Ny171 := qab.mk hy171
 clear hy171
 replace H := Option.bind_eq_some_iff.mp H
 obtain ⟨⟨t174, t175⟩, A50, H⟩ := H
 try dsimp only at H
 have A5 := qab.mk A50
 clear A50
 replace H := Option.bind_eq_some_iff.mp H
 obtain ⟨⟨t176, t177⟩, A60, H⟩ := H
 try dsimp only at H
 have A6 := qab.mk A60
 clear A60
 replace H := Option.bind_eq_some_iff.mp H
 obtain ⟨⟨t178, t179⟩, A70, H⟩ := H
 try dsimp only at H
 have A7 := qab.mk A70
 clear A70
 replace H := Option.bind_eq_some_iff.mp H
 obtain ⟨⟨t180, t181⟩, A80, H⟩ := H
 try dsimp only at H
 have A8 := qab.mk A80
 clear A80
 replace H := Option.bind_eq_some_iff.mp H
 obtain ⟨⟨t182, t183⟩, A90, H⟩ := H
 try dsimp only at H
 have A9 := qab.mk A90
 clear A90
 replace H := Option.bind_eq_some_iff.mp H
 obtain ⟨⟨t184, t185⟩, A100, H⟩ := H
 try dsimp only at H
 have A10 := qab.mk A100
 clear A100
 obtain ⟨y186, hy186⟩ : ∃ y_ : List (S95), y_ = (([(⟨1, 620, (⟨t174, t175⟩ : S41), (⟨t176, t177⟩ : S41)⟩ : S95), (⟨2, 5000, (⟨t178, t179⟩ : S41), (⟨t180, t181⟩ : S41)⟩ : S95), (⟨(-1), 5000, (⟨t182, t183⟩ : S41), (⟨t184, t185⟩ : S41)⟩ : S95)] : List (S95))) := ⟨_, rfl⟩
 replace H : (some (5, y154, y157, y160, y171, y186)) = some (r1, r2, r3, r4, r5, r6) := by first | (rw [hy186]; with_reducible exact H) | (have H2_ := (Option.bind_some _ _).symm.trans H; rw [hy186]; with_reducible exact H2_) | (have H2_ := (Option.bind_some _ _).symm.trans H; with_reducible exact H2_) | with_reducible exact H | (rw [hy186]; exact H) | exact H
 have Ny186 := qab.mk hy186
 clear hy186
 simp only [Option.some.injEq, Prod.mk.injEq] at H
 obtain ⟨rfl, rfl, rfl, rfl, rfl, rfl⟩ := H
 go_enter Try.func53, Try.ntmps53
 go_wp2_with (first | ((with_reducible refine qaq (N := 0) rfl ?_); refine qan ?hg (N := 0) ?hd (cs := #[.int .i64 0, .slice none 0 0, .slice none 0 0, .slice none 0 0, .slice none 0 0, .slice none 0 0]) (t := 27) ?hr ?_; (case hd => rfl); (case hg => rfl); (case hr => first | (go_simp; done) | (go_simp; rfl)); intro gb153 hg w11 hbox hb; have n0_ := qab.mk (qae (zb HB.out) hb); have n1_ := qab.mk (hbox); have n2_ := qab.mk ((by rw [hg]; exact (qay (zb HB.out)) : w.heap.size ≤ gb153)); have n3_ := qab.mk ((by rw [hg]; exact (qay (zb HB.out)) : w.heap.size ≤ gb153)); clear HB; have HB := n0_; have BK153 := n1_; have GW153 := n2_; have GE153 := n3_; clear n0_ n1_ n2_ n3_; clear hb hbox hg) | ((with_reducible refine qaq (N := 7) rfl ?_); refine Kd.R_lit k44 _ 44 ?hg (N := 7) ?hd (xs := ([(⟨0, 1, 0, 300⟩ : S44), (⟨1, 3, 900, 500⟩ : S44), (⟨0, 2, 600, 200⟩ : S44), (⟨2, 3, 700, 250⟩ : S44), (⟨2, 4, 0, (-1)⟩ : S44), (⟨1, 2, 800, 100⟩ : S44)] : List (S44))) (inner := [.int .i64 0, .int .i64 1, .int .i64 0, .int .i64 300, .int .i64 1, .int .i64 3, .int .i64 900, .int .i64 500, .int .i64 0, .int .i64 2, .int .i64 600, .int .i64 200, .int .i64 2, .int .i64 3, .int .i64 700, .int .i64 250, .int .i64 2, .int .i64 4, .int .i64 0, .int .i64 (-1), .int .i64 1, .int .i64 2, .int .i64 800, .int .i64 100]) (ok := fun _ => True) (okp := fun _ => True) ?hr ?hp (fun _ hk => hk) trivial (Below.refl _ _) (Nat.le_refl _) (by simp) ?_; (case hd => rfl); (case hg => rfl); (case hr => first | (go_simp; done) | (go_simp; rfl)); (case hp => exact (Reps.c4 (show Kd.M k44 _ _ _ (⟨0, 1, 0, 300⟩ : S44) [.int .i64 0, .int .i64 1, .int .i64 0, .int .i64 300] from (k44_mkM _ _ _ (⟨0, 1, 0, 300⟩ : S44) )) (Reps.c4 (show Kd.M k44 _ _ _ (⟨1, 3, 900, 500⟩ : S44) [.int .i64 1, .int .i64 3, .int .i64 900, .int .i64 500] from (k44_mkM _ _ _ (⟨1, 3, 900, 500⟩ : S44) )) (Reps.c4 (show Kd.M k44 _ _ _ (⟨0, 2, 600, 200⟩ : S44) [.int .i64 0, .int .i64 2, .int .i64 600, .int .i64 200] from (k44_mkM _ _ _ (⟨0, 2, 600, 200⟩ : S44) )) (Reps.c4 (show Kd.M k44 _ _ _ (⟨2, 3, 700, 250⟩ : S44) [.int .i64 2, .int .i64 3, .int .i64 700, .int .i64 250] from (k44_mkM _ _ _ (⟨2, 3, 700, 250⟩ : S44) )) (Reps.c4 (show Kd.M k44 _ _ _ (⟨2, 4, 0, (-1)⟩ : S44) [.int .i64 2, .int .i64 4, .int .i64 0, .int .i64 (-1)] from (k44_mkM _ _ _ (⟨2, 4, 0, (-1)⟩ : S44) )) (Reps.c4 (show Kd.M k44 _ _ _ (⟨1, 2, 800, 100⟩ : S44) [.int .i64 1, .int .i64 2, .int .i64 800, .int .i64 100] from (k44_mkM _ _ _ (⟨1, 2, 800, 100⟩ : S44) )) (Reps.none _ _)))))))); intro v155 w12 ho13 hb hg_ hnew_; clear hg_ hnew_; (first | rw [← Ny154.out] at ho13 | (simp only [Int.reduceToNat] at ho13; rw [← Ny154.out] at ho13)); have n0_ := qab.mk (Kd.R_lower ho13 (qay (by repeat (first | (with_reducible first | exact HB.out | apply qag | apply qaf | apply qah | refine qaj ?_ GE153.out) | exact HB.out)))); have n1_ := qab.mk (qad (g := gb153) (o := .cells #[.int .i64 0, .slice none 0 0, .slice none 0 0, .slice none 0 0, .slice none 0 0, .slice none 0 0] 27 (0, 0)) (by (with_reducible repeat (first | refine qar ?_ _ | refine qav ?_ | refine qao ?_ _)); exact BK153.out) hb); have n2_ := qab.mk (qae (by repeat (first | (with_reducible first | exact HB.out | apply qag | apply qaf | apply qah | refine qaj ?_ GE153.out) | exact HB.out)) hb); clear BK153; clear HB; have HO156 := n0_; have BK153 := n1_; have HB := n2_; clear n0_ n1_ n2_; clear hb ho13) | ((with_reducible refine qaq (N := 8) rfl ?_); refine Kd.R_lit (Kd.int .i64) _ 3 ?hg (N := 8) ?hd (xs := ([0] : List Int)) (inner := [.int .i64 0]) (ok := fun _ => True) (okp := fun _ => True) ?hr ?hp (fun _ hk => hk) trivial (Below.refl _ _) (Nat.le_refl _) (by simp) ?_; (case hd => rfl); (case hg => rfl); (case hr => first | (go_simp; done) | (go_simp; rfl)); (case hp => exact (Reps.one (show Kd.M (Kd.int .i64) _ _ _ 0 [.int .i64 0] from rfl) (Reps.none _ _))); intro v158 w14 ho15 hb hg_ hnew_; clear hg_ hnew_; (first | rw [← Ny157.out] at ho15 | (simp only [Int.reduceToNat] at ho15; rw [← Ny157.out] at ho15)); have n0_ := qab.mk (Kd.qam (by (with_reducible repeat (first | apply Kd.qas | apply Kd.qat | apply Kd.qaw)); exact HO156.out) hb); have n1_ := qab.mk (Kd.R_lower ho15 (qay (by repeat (first | (with_reducible first | exact HB.out | apply qag | apply qaf | apply qah | refine qaj ?_ GE153.out) | exact HB.out)))); have n2_ := qab.mk (qad (g := gb153) (o := .cells #[.int .i64 0, .slice none 0 0, .slice none 0 0, .slice none 0 0, .slice none 0 0, .slice none 0 0] 27 (0, 0)) (by (with_reducible repeat (first | refine qar ?_ _ | refine qav ?_ | refine qao ?_ _)); exact BK153.out) hb); have n3_ := qab.mk (qae (by repeat (first | (with_reducible first | exact HB.out | apply qag | apply qaf | apply qah | refine qaj ?_ GE153.out) | exact HB.out)) hb); clear HO156; clear BK153; clear HB; have HO156 := n0_; have HO159 := n1_; have BK153 := n2_; have HB := n3_; clear n0_ n1_ n2_ n3_; clear hb ho15) | ((with_reducible refine qaq (N := 9) rfl ?_); refine Kd.R_lit (Kd.int .i64) _ 3 ?hg (N := 9) ?hd (xs := ([3] : List Int)) (inner := [.int .i64 3]) (ok := fun _ => True) (okp := fun _ => True) ?hr ?hp (fun _ hk => hk) trivial (Below.refl _ _) (Nat.le_refl _) (by simp) ?_; (case hd => rfl); (case hg => rfl); (case hr => first | (go_simp; done) | (go_simp; rfl)); (case hp => exact (Reps.one (show Kd.M (Kd.int .i64) _ _ _ 3 [.int .i64 3] from rfl) (Reps.none _ _))); intro v161 w16 ho17 hb hg_ hnew_; clear hg_ hnew_; (first | rw [← Ny160.out] at ho17 | (simp only [Int.reduceToNat] at ho17; rw [← Ny160.out] at ho17)); have n0_ := qab.mk (Kd.qam (by (with_reducible repeat (first | apply Kd.qas | apply Kd.qat | apply Kd.qaw)); exact HO156.out) hb); have n1_ := qab.mk (Kd.R_elder' (by (with_reducible repeat (first | apply Kd.qas | apply Kd.qat | apply Kd.qaw)); exact HO159.out) (Kd.R_base ho17) hb); have n2_ := qab.mk (Kd.R_lower (Kd.R_new' ho17 (Kd.R_lt (by (with_reducible repeat (first | apply Kd.qas | apply Kd.qat | apply Kd.qaw)); exact HO159.out))) (qay (by repeat (first | (with_reducible first | exact HB.out | apply qag | apply qaf | apply qah | refine qaj ?_ GE153.out) | exact HB.out)))); have n3_ := qab.mk (qad (g := gb153) (o := .cells #[.int .i64 0, .slice none 0 0, .slice none 0 0, .slice none 0 0, .slice none 0 0, .slice none 0 0] 27 (0, 0)) (by (with_reducible repeat (first | refine qar ?_ _ | refine qav ?_ | refine qao ?_ _)); exact BK153.out) hb); have n4_ := qab.mk (qae (by repeat (first | (with_reducible first | exact HB.out | apply qag | apply qaf | apply qah | refine qaj ?_ GE153.out) | exact HB.out)) hb); clear HO156; clear HO159; clear BK153; clear HB; have HO156 := n0_; have HO159 := n1_; have HO162 := n2_; have BK153 := n3_; have HB := n4_; clear n0_ n1_ n2_ n3_ n4_; clear hb ho17) | ((with_reducible refine qbb (f := 50) rfl ?_); refine zl 10 Try.func50 #[.int .i64 500, .int .i64 650] ?_; (with_reducible refine (taliklaw07_span.calls 500 650 t163 t164 _ A1.out).mono ?_); rintro e w18 ⟨rfl, hb⟩; refine ⟨_, rfl, ?_⟩; have n0_ := qab.mk (Kd.qam (by (with_reducible repeat (first | apply Kd.qas | apply Kd.qat | apply Kd.qaw)); exact HO156.out) hb); have n1_ := qab.mk (Kd.qam (by (with_reducible repeat (first | apply Kd.qas | apply Kd.qat | apply Kd.qaw)); exact HO159.out) hb); have n2_ := qab.mk (Kd.qam (by (with_reducible repeat (first | apply Kd.qas | apply Kd.qat | apply Kd.qaw)); exact HO162.out) hb); have n3_ := qab.mk (qad (g := gb153) (o := .cells #[.int .i64 0, .slice none 0 0, .slice none 0 0, .slice none 0 0, .slice none 0 0, .slice none 0 0] 27 (0, 0)) (by (with_reducible repeat (first | refine qar ?_ _ | refine qav ?_ | refine qao ?_ _)); exact BK153.out) hb); have n4_ := qab.mk (qae (by repeat (first | (with_reducible first | exact HB.out | apply qag | apply qaf | apply qah | refine qaj ?_ GE153.out) | exact HB.out)) hb); clear HO156; clear HO159; clear HO162; clear BK153; clear HB; have HO156 := n0_; have HO159 := n1_; have HO162 := n2_; have BK153 := n3_; have HB := n4_; clear n0_ n1_ n2_ n3_ n4_; (try clear hb); (try clear hb2); (try clear hk); (try clear hi)) | ((with_reducible refine qbb (f := 50) rfl ?_); refine zl 11 Try.func50 #[.int .i64 550, .int .i64 750] ?_; (with_reducible refine (taliklaw07_span.calls 550 750 t165 t166 _ A2.out).mono ?_); rintro e w19 ⟨rfl, hb⟩; refine ⟨_, rfl, ?_⟩; have n0_ := qab.mk (Kd.qam (by (with_reducible repeat (first | apply Kd.qas | apply Kd.qat | apply Kd.qaw)); exact HO156.out) hb); have n1_ := qab.mk (Kd.qam (by (with_reducible repeat (first | apply Kd.qas | apply Kd.qat | apply Kd.qaw)); exact HO159.out) hb); have n2_ := qab.mk (Kd.qam (by (with_reducible repeat (first | apply Kd.qas | apply Kd.qat | apply Kd.qaw)); exact HO162.out) hb); have n3_ := qab.mk (qad (g := gb153) (o := .cells #[.int .i64 0, .slice none 0 0, .slice none 0 0, .slice none 0 0, .slice none 0 0, .slice none 0 0] 27 (0, 0)) (by (with_reducible repeat (first | refine qar ?_ _ | refine qav ?_ | refine qao ?_ _)); exact BK153.out) hb); have n4_ := qab.mk (qae (by repeat (first | (with_reducible first | exact HB.out | apply qag | apply qaf | apply qah | refine qaj ?_ GE153.out) | exact HB.out)) hb); clear HO156; clear HO159; clear HO162; clear BK153; clear HB; have HO156 := n0_; have HO159 := n1_; have HO162 := n2_; have BK153 := n3_; have HB := n4_; clear n0_ n1_ n2_ n3_ n4_; (try clear hb); (try clear hb2); (try clear hk); (try clear hi)) | ((with_reducible refine qbb (f := 50) rfl ?_); refine zl 12 Try.func50 #[.int .i64 600, .int .i64 850] ?_; (with_reducible refine (taliklaw07_span.calls 600 850 t167 t168 _ A3.out).mono ?_); rintro e w20 ⟨rfl, hb⟩; refine ⟨_, rfl, ?_⟩; have n0_ := qab.mk (Kd.qam (by (with_reducible repeat (first | apply Kd.qas | apply Kd.qat | apply Kd.qaw)); exact HO156.out) hb); have n1_ := qab.mk (Kd.qam (by (with_reducible repeat (first | apply Kd.qas | apply Kd.qat | apply Kd.qaw)); exact HO159.out) hb); have n2_ := qab.mk (Kd.qam (by (with_reducible repeat (first | apply Kd.qas | apply Kd.qat | apply Kd.qaw)); exact HO162.out) hb); have n3_ := qab.mk (qad (g := gb153) (o := .cells #[.int .i64 0, .slice none 0 0, .slice none 0 0, .slice none 0 0, .slice none 0 0, .slice none 0 0] 27 (0, 0)) (by (with_reducible repeat (first | refine qar ?_ _ | refine qav ?_ | refine qao ?_ _)); exact BK153.out) hb); have n4_ := qab.mk (qae (by repeat (first | (with_reducible first | exact HB.out | apply qag | apply qaf | apply qah | refine qaj ?_ GE153.out) | exact HB.out)) hb); clear HO156; clear HO159; clear HO162; clear BK153; clear HB; have HO156 := n0_; have HO159 := n1_; have HO162 := n2_; have BK153 := n3_; have HB := n4_; clear n0_ n1_ n2_ n3_ n4_; (try clear hb); (try clear hb2); (try clear hk); (try clear hi)) | ((with_reducible refine qbb (f := 50) rfl ?_); refine zl 13 Try.func50 #[.int .i64 650, .int .i64 950] ?_; (with_reducible refine (taliklaw07_span.calls 650 950 t169 t170 _ A4.out).mono ?_); rintro e w21 ⟨rfl, hb⟩; refine ⟨_, rfl, ?_⟩; have n0_ := qab.mk (Kd.qam (by (with_reducible repeat (first | apply Kd.qas | apply Kd.qat | apply Kd.qaw)); exact HO156.out) hb); have n1_ := qab.mk (Kd.qam (by (with_reducible repeat (first | apply Kd.qas | apply Kd.qat | apply Kd.qaw)); exact HO159.out) hb); have n2_ := qab.mk (Kd.qam (by (with_reducible repeat (first | apply Kd.qas | apply Kd.qat | apply Kd.qaw)); exact HO162.out) hb); have n3_ := qab.mk (qad (g := gb153) (o := .cells #[.int .i64 0, .slice none 0 0, .slice none 0 0, .slice none 0 0, .slice none 0 0, .slice none 0 0] 27 (0, 0)) (by (with_reducible repeat (first | refine qar ?_ _ | refine qav ?_ | refine qao ?_ _)); exact BK153.out) hb); have n4_ := qab.mk (qae (by repeat (first | (with_reducible first | exact HB.out | apply qag | apply qaf | apply qah | refine qaj ?_ GE153.out) | exact HB.out)) hb); clear HO156; clear HO159; clear HO162; clear BK153; clear HB; have HO156 := n0_; have HO159 := n1_; have HO162 := n2_; have BK153 := n3_; have HB := n4_; clear n0_ n1_ n2_ n3_ n4_; (try clear hb); (try clear hb2); (try clear hk); (try clear hi)) | ((with_reducible refine qaq (N := 14) rfl ?_); refine Kd.R_lit k41 _ 41 ?hg (N := 14) ?hd (xs := ([(⟨t163, t164⟩ : S41), (⟨t165, t166⟩ : S41), (⟨t167, t168⟩ : S41), (⟨t169, t170⟩ : S41)] : List (S41))) (inner := [.int .i64 t163, .int .i64 t164, .int .i64 t165, .int .i64 t166, .int .i64 t167, .int .i64 t168, .int .i64 t169, .int .i64 t170]) (ok := fun _ => True) (okp := fun _ => True) ?hr ?hp (fun _ hk => hk) trivial (Below.refl _ _) (Nat.le_refl _) (by simp) ?_; (case hd => rfl); (case hg => rfl); (case hr => first | (go_simp; done) | (go_simp; rfl)); (case hp => exact (Reps.c2 (show Kd.M k41 _ _ _ (⟨t163, t164⟩ : S41) [.int .i64 t163, .int .i64 t164] from (k41_mkM _ _ _ (⟨t163, t164⟩ : S41) )) (Reps.c2 (show Kd.M k41 _ _ _ (⟨t165, t166⟩ : S41) [.int .i64 t165, .int .i64 t166] from (k41_mkM _ _ _ (⟨t165, t166⟩ : S41) )) (Reps.c2 (show Kd.M k41 _ _ _ (⟨t167, t168⟩ : S41) [.int .i64 t167, .int .i64 t168] from (k41_mkM _ _ _ (⟨t167, t168⟩ : S41) )) (Reps.c2 (show Kd.M k41 _ _ _ (⟨t169, t170⟩ : S41) [.int .i64 t169, .int .i64 t170] from (k41_mkM _ _ _ (⟨t169, t170⟩ : S41) )) (Reps.none _ _)))))); intro v172 w22 ho23 hb hg_ hnew_; clear hg_ hnew_; (first | rw [← Ny171.out] at ho23 | (simp only [Int.reduceToNat] at ho23; rw [← Ny171.out] at ho23)); have n0_ := qab.mk (Kd.qam (by (with_reducible repeat (first | apply Kd.qas | apply Kd.qat | apply Kd.qaw)); exact HO156.out) hb); have n1_ := qab.mk (Kd.qam (by (with_reducible repeat (first | apply Kd.qas | apply Kd.qat | apply Kd.qaw)); exact HO159.out) hb); have n2_ := qab.mk (Kd.qam (by (with_reducible repeat (first | apply Kd.qas | apply Kd.qat | apply Kd.qaw)); exact HO162.out) hb); have n3_ := qab.mk (Kd.R_lower ho23 (qay (by repeat (first | (with_reducible first | exact HB.out | apply qag | apply qaf | apply qah | refine qaj ?_ GE153.out) | exact HB.out)))); have n4_ := qab.mk (qad (g := gb153) (o := .cells #[.int .i64 0, .slice none 0 0, .slice none 0 0, .slice none 0 0, .slice none 0 0, .slice none 0 0] 27 (0, 0)) (by (with_reducible repeat (first | refine qar ?_ _ | refine qav ?_ | refine qao ?_ _)); exact BK153.out) hb); have n5_ := qab.mk (qae (by repeat (first | (with_reducible first | exact HB.out | apply qag | apply qaf | apply qah | refine qaj ?_ GE153.out) | exact HB.out)) hb); clear HO156; clear HO159; clear HO162; clear BK153; clear HB; have HO156 := n0_; have HO159 := n1_; have HO162 := n2_; have HO173 := n3_; have BK153 := n4_; have HB := n5_; clear n0_ n1_ n2_ n3_ n4_ n5_; clear hb ho23) | ((with_reducible refine qbb (f := 50) rfl ?_); refine zl 15 Try.func50 #[.int .i64 100, .int .i64 120] ?_; (with_reducible refine (taliklaw07_span.calls 100 120 t174 t175 _ A5.out).mono ?_); rintro e w24 ⟨rfl, hb⟩; refine ⟨_, rfl, ?_⟩; have n0_ := qab.mk (Kd.qam (by (with_reducible repeat (first | apply Kd.qas | apply Kd.qat | apply Kd.qaw)); exact HO156.out) hb); have n1_ := qab.mk (Kd.qam (by (with_reducible repeat (first | apply Kd.qas | apply Kd.qat | apply Kd.qaw)); exact HO159.out) hb); have n2_ := qab.mk (Kd.qam (by (with_reducible repeat (first | apply Kd.qas | apply Kd.qat | apply Kd.qaw)); exact HO162.out) hb); have n3_ := qab.mk (Kd.qam (by (with_reducible repeat (first | apply Kd.qas | apply Kd.qat | apply Kd.qaw)); exact HO173.out) hb); have n4_ := qab.mk (qad (g := gb153) (o := .cells #[.int .i64 0, .slice none 0 0, .slice none 0 0, .slice none 0 0, .slice none 0 0, .slice none 0 0] 27 (0, 0)) (by (with_reducible repeat (first | refine qar ?_ _ | refine qav ?_ | refine qao ?_ _)); exact BK153.out) hb); have n5_ := qab.mk (qae (by repeat (first | (with_reducible first | exact HB.out | apply qag | apply qaf | apply qah | refine qaj ?_ GE153.out) | exact HB.out)) hb); clear HO156; clear HO159; clear HO162; clear HO173; clear BK153; clear HB; have HO156 := n0_; have HO159 := n1_; have HO162 := n2_; have HO173 := n3_; have BK153 := n4_; have HB := n5_; clear n0_ n1_ n2_ n3_ n4_ n5_; (try clear hb); (try clear hb2); (try clear hk); (try clear hi)) | ((with_reducible refine qbb (f := 50) rfl ?_); refine zl 16 Try.func50 #[.int .i64 10, .int .i64 20] ?_; (with_reducible refine (taliklaw07_span.calls 10 20 t176 t177 _ A6.out).mono ?_); rintro e w25 ⟨rfl, hb⟩; refine ⟨_, rfl, ?_⟩; have n0_ := qab.mk (Kd.qam (by (with_reducible repeat (first | apply Kd.qas | apply Kd.qat | apply Kd.qaw)); exact HO156.out) hb); have n1_ := qab.mk (Kd.qam (by (with_reducible repeat (first | apply Kd.qas | apply Kd.qat | apply Kd.qaw)); exact HO159.out) hb); have n2_ := qab.mk (Kd.qam (by (with_reducible repeat (first | apply Kd.qas | apply Kd.qat | apply Kd.qaw)); exact HO162.out) hb); have n3_ := qab.mk (Kd.qam (by (with_reducible repeat (first | apply Kd.qas | apply Kd.qat | apply Kd.qaw)); exact HO173.out) hb); have n4_ := qab.mk (qad (g := gb153) (o := .cells #[.int .i64 0, .slice none 0 0, .slice none 0 0, .slice none 0 0, .slice none 0 0, .slice none 0 0] 27 (0, 0)) (by (with_reducible repeat (first | refine qar ?_ _ | refine qav ?_ | refine qao ?_ _)); exact BK153.out) hb); have n5_ := qab.mk (qae (by repeat (first | (with_reducible first | exact HB.out | apply qag | apply qaf | apply qah | refine qaj ?_ GE153.out) | exact HB.out)) hb); clear HO156; clear HO159; clear HO162; clear HO173; clear BK153; clear HB; have HO156 := n0_; have HO159 := n1_; have HO162 := n2_; have HO173 := n3_; have BK153 := n4_; have HB := n5_; clear n0_ n1_ n2_ n3_ n4_ n5_; (try clear hb); (try clear hb2); (try clear hk); (try clear hi)) | ((with_reducible refine qbb (f := 50) rfl ?_); refine zl 18 Try.func50 #[.int .i64 200, .int .i64 250] ?_; (with_reducible refine (taliklaw07_span.calls 200 250 t178 t179 _ A7.out).mono ?_); rintro e w26 ⟨rfl, hb⟩; refine ⟨_, rfl, ?_⟩; have n0_ := qab.mk (Kd.qam (by (with_reducible repeat (first | apply Kd.qas | apply Kd.qat | apply Kd.qaw)); exact HO156.out) hb); have n1_ := qab.mk (Kd.qam (by (with_reducible repeat (first | apply Kd.qas | apply Kd.qat | apply Kd.qaw)); exact HO159.out) hb); have n2_ := qab.mk (Kd.qam (by (with_reducible repeat (first | apply Kd.qas | apply Kd.qat | apply Kd.qaw)); exact HO162.out) hb); have n3_ := qab.mk (Kd.qam (by (with_reducible repeat (first | apply Kd.qas | apply Kd.qat | apply Kd.qaw)); exact HO173.out) hb); have n4_ := qab.mk (qad (g := gb153) (o := .cells #[.int .i64 0, .slice none 0 0, .slice none 0 0, .slice none 0 0, .slice none 0 0, .slice none 0 0] 27 (0, 0)) (by (with_reducible repeat (first | refine qar ?_ _ | refine qav ?_ | refine qao ?_ _)); exact BK153.out) hb); have n5_ := qab.mk (qae (by repeat (first | (with_reducible first | exact HB.out | apply qag | apply qaf | apply qah | refine qaj ?_ GE153.out) | exact HB.out)) hb); clear HO156; clear HO159; clear HO162; clear HO173; clear BK153; clear HB; have HO156 := n0_; have HO159 := n1_; have HO162 := n2_; have HO173 := n3_; have BK153 := n4_; have HB := n5_; clear n0_ n1_ n2_ n3_ n4_ n5_; (try clear hb); (try clear hb2); (try clear hk); (try clear hi)) | ((with_reducible refine qbb (f := 50) rfl ?_); refine zl 19 Try.func50 #[.int .i64 90, .int .i64 130] ?_; (with_reducible refine (taliklaw07_span.calls 90 130 t180 t181 _ A8.out).mono ?_); rintro e w27 ⟨rfl, hb⟩; refine ⟨_, rfl, ?_⟩; have n0_ := qab.mk (Kd.qam (by (with_reducible repeat (first | apply Kd.qas | apply Kd.qat | apply Kd.qaw)); exact HO156.out) hb); have n1_ := qab.mk (Kd.qam (by (with_reducible repeat (first | apply Kd.qas | apply Kd.qat | apply Kd.qaw)); exact HO159.out) hb); have n2_ := qab.mk (Kd.qam (by (with_reducible repeat (first | apply Kd.qas | apply Kd.qat | apply Kd.qaw)); exact HO162.out) hb); have n3_ := qab.mk (Kd.qam (by (with_reducible repeat (first | apply Kd.qas | apply Kd.qat | apply Kd.qaw)); exact HO173.out) hb); have n4_ := qab.mk (qad (g := gb153) (o := .cells #[.int .i64 0, .slice none 0 0, .slice none 0 0, .slice none 0 0, .slice none 0 0, .slice none 0 0] 27 (0, 0)) (by (with_reducible repeat (first | refine qar ?_ _ | refine qav ?_ | refine qao ?_ _)); exact BK153.out) hb); have n5_ := qab.mk (qae (by repeat (first | (with_reducible first | exact HB.out | apply qag | apply qaf | apply qah | refine qaj ?_ GE153.out) | exact HB.out)) hb); clear HO156; clear HO159; clear HO162; clear HO173; clear BK153; clear HB; have HO156 := n0_; have HO159 := n1_; have HO162 := n2_; have HO173 := n3_; have BK153 := n4_; have HB := n5_; clear n0_ n1_ n2_ n3_ n4_ n5_; (try clear hb); (try clear hb2); (try clear hk); (try clear hi)) | ((with_reducible refine qbb (f := 50) rfl ?_); refine zl 21 Try.func50 #[.int .i64 400, .int .i64 400] ?_; (with_reducible refine (taliklaw07_span.calls 400 400 t182 t183 _ A9.out).mono ?_); rintro e w28 ⟨rfl, hb⟩; refine ⟨_, rfl, ?_⟩; have n0_ := qab.mk (Kd.qam (by (with_reducible repeat (first | apply Kd.qas | apply Kd.qat | apply Kd.qaw)); exact HO156.out) hb); have n1_ := qab.mk (Kd.qam (by (with_reducible repeat (first | apply Kd.qas | apply Kd.qat | apply Kd.qaw)); exact HO159.out) hb); have n2_ := qab.mk (Kd.qam (by (with_reducible repeat (first | apply Kd.qas | apply Kd.qat | apply Kd.qaw)); exact HO162.out) hb); have n3_ := qab.mk (Kd.qam (by (with_reducible repeat (first | apply Kd.qas | apply Kd.qat | apply Kd.qaw)); exact HO173.out) hb); have n4_ := qab.mk (qad (g := gb153) (o := .cells #[.int .i64 0, .slice none 0 0, .slice none 0 0, .slice none 0 0, .slice none 0 0, .slice none 0 0] 27 (0, 0)) (by (with_reducible repeat (first | refine qar ?_ _ | refine qav ?_ | refine qao ?_ _)); exact BK153.out) hb); have n5_ := qab.mk (qae (by repeat (first | (with_reducible first | exact HB.out | apply qag | apply qaf | apply qah | refine qaj ?_ GE153.out) | exact HB.out)) hb); clear HO156; clear HO159; clear HO162; clear HO173; clear BK153; clear HB; have HO156 := n0_; have HO159 := n1_; have HO162 := n2_; have HO173 := n3_; have BK153 := n4_; have HB := n5_; clear n0_ n1_ n2_ n3_ n4_ n5_; (try clear hb); (try clear hb2); (try clear hk); (try clear hi)) | ((with_reducible refine qbb (f := 50) rfl ?_); refine zl 22 Try.func50 #[.int .i64 300, .int .i64 400] ?_; (with_reducible refine (taliklaw07_span.calls 300 400 t184 t185 _ A10.out).mono ?_); rintro e w29 ⟨rfl, hb⟩; refine ⟨_, rfl, ?_⟩; have n0_ := qab.mk (Kd.qam (by (with_reducible repeat (first | apply Kd.qas | apply Kd.qat | apply Kd.qaw)); exact HO156.out) hb); have n1_ := qab.mk (Kd.qam (by (with_reducible repeat (first | apply Kd.qas | apply Kd.qat | apply Kd.qaw)); exact HO159.out) hb); have n2_ := qab.mk (Kd.qam (by (with_reducible repeat (first | apply Kd.qas | apply Kd.qat | apply Kd.qaw)); exact HO162.out) hb); have n3_ := qab.mk (Kd.qam (by (with_reducible repeat (first | apply Kd.qas | apply Kd.qat | apply Kd.qaw)); exact HO173.out) hb); have n4_ := qab.mk (qad (g := gb153) (o := .cells #[.int .i64 0, .slice none 0 0, .slice none 0 0, .slice none 0 0, .slice none 0 0, .slice none 0 0] 27 (0, 0)) (by (with_reducible repeat (first | refine qar ?_ _ | refine qav ?_ | refine qao ?_ _)); exact BK153.out) hb); have n5_ := qab.mk (qae (by repeat (first | (with_reducible first | exact HB.out | apply qag | apply qaf | apply qah | refine qaj ?_ GE153.out) | exact HB.out)) hb); clear HO156; clear HO159; clear HO162; clear HO173; clear BK153; clear HB; have HO156 := n0_; have HO159 := n1_; have HO162 := n2_; have HO173 := n3_; have BK153 := n4_; have HB := n5_; clear n0_ n1_ n2_ n3_ n4_ n5_; (try clear hb); (try clear hb2); (try clear hk); (try clear hi)) | ((with_reducible refine qaq (N := 24) rfl ?_); refine Kd.R_lit k95 _ 95 ?hg (N := 24) ?hd (xs := ([(⟨1, 620, (⟨t174, t175⟩ : S41), (⟨t176, t177⟩ : S41)⟩ : S95), (⟨2, 5000, (⟨t178, t179⟩ : S41), (⟨t180, t181⟩ : S41)⟩ : S95), (⟨(-1), 5000, (⟨t182, t183⟩ : S41), (⟨t184, t185⟩ : S41)⟩ : S95)] : List (S95))) (inner := [.int .i64 1, .int .i64 620, .int .i64 t174, .int .i64 t175, .int .i64 t176, .int .i64 t177, .int .i64 2, .int .i64 5000, .int .i64 t178, .int .i64 t179, .int .i64 t180, .int .i64 t181, .int .i64 (-1), .int .i64 5000, .int .i64 t182, .int .i64 t183, .int .i64 t184, .int .i64 t185]) (ok := fun _ => True) (okp := fun _ => True) ?hr ?hp (fun _ hk => hk) trivial (Below.refl _ _) (Nat.le_refl _) (by simp) ?_; (case hd => rfl); (case hg => rfl); (case hr => first | (go_simp; done) | (go_simp; rfl)); (case hp => exact (Reps.c6 (show Kd.M k95 _ _ _ (⟨1, 620, (⟨t174, t175⟩ : S41), (⟨t176, t177⟩ : S41)⟩ : S95) [.int .i64 1, .int .i64 620, .int .i64 t174, .int .i64 t175, .int .i64 t176, .int .i64 t177] from (k95_mkM _ _ _ (⟨1, 620, (⟨t174, t175⟩ : S41), (⟨t176, t177⟩ : S41)⟩ : S95) )) (Reps.c6 (show Kd.M k95 _ _ _ (⟨2, 5000, (⟨t178, t179⟩ : S41), (⟨t180, t181⟩ : S41)⟩ : S95) [.int .i64 2, .int .i64 5000, .int .i64 t178, .int .i64 t179, .int .i64 t180, .int .i64 t181] from (k95_mkM _ _ _ (⟨2, 5000, (⟨t178, t179⟩ : S41), (⟨t180, t181⟩ : S41)⟩ : S95) )) (Reps.c6 (show Kd.M k95 _ _ _ (⟨(-1), 5000, (⟨t182, t183⟩ : S41), (⟨t184, t185⟩ : S41)⟩ : S95) [.int .i64 (-1), .int .i64 5000, .int .i64 t182, .int .i64 t183, .int .i64 t184, .int .i64 t185] from (k95_mkM _ _ _ (⟨(-1), 5000, (⟨t182, t183⟩ : S41), (⟨t184, t185⟩ : S41)⟩ : S95) )) (Reps.none _ _))))); intro v187 w30 ho31 hb hg_ hnew_; clear hg_ hnew_; (first | rw [← Ny186.out] at ho31 | (simp only [Int.reduceToNat] at ho31; rw [← Ny186.out] at ho31)); have n0_ := qab.mk (Kd.qam (by (with_reducible repeat (first | apply Kd.qas | apply Kd.qat | apply Kd.qaw)); exact HO156.out) hb); have n1_ := qab.mk (Kd.qam (by (with_reducible repeat (first | apply Kd.qas | apply Kd.qat | apply Kd.qaw)); exact HO159.out) hb); have n2_ := qab.mk (Kd.qam (by (with_reducible repeat (first | apply Kd.qas | apply Kd.qat | apply Kd.qaw)); exact HO162.out) hb); have n3_ := qab.mk (Kd.qam (by (with_reducible repeat (first | apply Kd.qas | apply Kd.qat | apply Kd.qaw)); exact HO173.out) hb); have n4_ := qab.mk (Kd.R_lower ho31 (qay (by repeat (first | (with_reducible first | exact HB.out | apply qag | apply qaf | apply qah | refine qaj ?_ GE153.out) | exact HB.out)))); have n5_ := qab.mk (qad (g := gb153) (o := .cells #[.int .i64 0, .slice none 0 0, .slice none 0 0, .slice none 0 0, .slice none 0 0, .slice none 0 0] 27 (0, 0)) (by (with_reducible repeat (first | refine qar ?_ _ | refine qav ?_ | refine qao ?_ _)); exact BK153.out) hb); have n6_ := qab.mk (qae (by repeat (first | (with_reducible first | exact HB.out | apply qag | apply qaf | apply qah | refine qaj ?_ GE153.out) | exact HB.out)) hb); clear HO156; clear HO159; clear HO162; clear HO173; clear BK153; clear HB; have HO156 := n0_; have HO159 := n1_; have HO162 := n2_; have HO173 := n3_; have HO188 := n4_; have BK153 := n5_; have HB := n6_; clear n0_ n1_ n2_ n3_ n4_ n5_ n6_; clear hb ho31; obtain ⟨Ao32, co32, eo32⟩ := Kd.R_slice HO188.out; subst eo32; obtain ⟨Ao33, co33, eo33⟩ := Kd.R_slice HO173.out; subst eo33; obtain ⟨Ao34, co34, eo34⟩ := Kd.R_slice HO162.out; subst eo34; obtain ⟨Ao35, co35, eo35⟩ := Kd.R_slice HO159.out; subst eo35; obtain ⟨Ao36, co36, eo36⟩ := Kd.R_slice HO156.out; subst eo36; have hcz37_0 : w30.cell? ⟨gb153, 0, none⟩ = some (.int .i64 0) := (qaa BK153.out 0).trans rfl; have hcz37_1 : w30.cell? ⟨gb153, 1, none⟩ = some (.slice none 0 0) := (qaa BK153.out 1).trans rfl; have hcz37_2 : w30.cell? ⟨gb153, 2, none⟩ = some (.slice none 0 0) := (qaa BK153.out 2).trans rfl; have hcz37_3 : w30.cell? ⟨gb153, 3, none⟩ = some (.slice none 0 0) := (qaa BK153.out 3).trans rfl; have hcz37_4 : w30.cell? ⟨gb153, 4, none⟩ = some (.slice none 0 0) := (qaa BK153.out 4).trans rfl; have hcz37_5 : w30.cell? ⟨gb153, 5, none⟩ = some (.slice none 0 0) := (qaa BK153.out 5).trans rfl; have hfz37_0 := qac BK153.out 0; have hfz37_1 := qac BK153.out 1; have hfz37_2 := qac BK153.out 2; have hfz37_3 := qac BK153.out 3; have hfz37_4 := qac BK153.out 4; have hfz37_5 := qac BK153.out 5))
 refine bodyPost_ret (results_cell_row rfl _ _ gb153 27 #[.int .i64 5, .slice Ao36 y154.length co36, .slice Ao35 y157.length co35, .slice Ao34 y160.length co34, .slice Ao33 y171.length co33, .slice Ao32 y186.length co32] (0, 0) _ rfl (by (with_reducible repeat (first | refine qar ?_ _ | refine qav ?_ | refine qao ?_ _)); refine blk_put (cs := #[.int .i64 5, .slice Ao36 y154.length co36, .slice Ao35 y157.length co35, .slice Ao34 y160.length co34, .slice Ao33 y171.length co33, .slice none 0 0]) ?_ 5 _ rfl; (with_reducible repeat (first | refine qar ?_ _ | refine qav ?_ | refine qao ?_ _)); refine blk_put (cs := #[.int .i64 5, .slice Ao36 y154.length co36, .slice Ao35 y157.length co35, .slice Ao34 y160.length co34, .slice none 0 0, .slice none 0 0]) ?_ 4 _ rfl; (with_reducible repeat (first | refine qar ?_ _ | refine qav ?_ | refine qao ?_ _)); refine blk_put (cs := #[.int .i64 5, .slice Ao36 y154.length co36, .slice Ao35 y157.length co35, .slice none 0 0, .slice none 0 0, .slice none 0 0]) ?_ 3 _ rfl; (with_reducible repeat (first | refine qar ?_ _ | refine qav ?_ | refine qao ?_ _)); refine blk_put (cs := #[.int .i64 5, .slice Ao36 y154.length co36, .slice none 0 0, .slice none 0 0, .slice none 0 0, .slice none 0 0]) ?_ 2 _ rfl; (with_reducible repeat (first | refine qar ?_ _ | refine qav ?_ | refine qao ?_ _)); refine blk_put (cs := #[.int .i64 5, .slice none 0 0, .slice none 0 0, .slice none 0 0, .slice none 0 0, .slice none 0 0]) ?_ 1 _ rfl; (with_reducible repeat (first | refine qar ?_ _ | refine qav ?_ | refine qao ?_ _)); refine blk_put (cs := #[.int .i64 0, .slice none 0 0, .slice none 0 0, .slice none 0 0, .slice none 0 0, .slice none 0 0]) ?_ 0 _ rfl; (with_reducible repeat (first | refine qar ?_ _ | refine qav ?_ | refine qao ?_ _)); exact BK153.out) Try.underlying27 rfl (by kernel_rfl)) rfl ?_
 exact ⟨_, _, _, _, _, by first | rfl | (simp [qaz, qba] <;> rfl) | (simp [*, qaz, qba] <;> rfl), by (with_reducible repeat (first | apply Kd.qas | apply Kd.qat | apply Kd.qaw)); exact Kd.R_mono (Kd.R_far (p := ⟨gb153, 5, none⟩) (Kd.R_far (p := ⟨gb153, 4, none⟩) (Kd.R_far (p := ⟨gb153, 3, none⟩) (Kd.R_far (p := ⟨gb153, 2, none⟩) (Kd.R_far (p := ⟨gb153, 1, none⟩) (Kd.R_far (p := ⟨gb153, 0, none⟩) (Kd.R_types HO156.out BK153.out (by decide)) (fun _ hk => hk.2) (.int .i64 5)) (fun _ hk => hk.2) (.slice Ao36 y154.length co36)) (fun _ hk => hk.2) (.slice Ao35 y157.length co35)) (fun _ hk => hk.2) (.slice Ao34 y160.length co34)) (fun _ hk => hk.2) (.slice Ao33 y171.length co33)) (fun _ hk => hk.2) (.slice Ao32 y186.length co32)) (fun _ hk => trivial), by (with_reducible repeat (first | apply Kd.qas | apply Kd.qat | apply Kd.qaw)); exact Kd.R_mono (Kd.R_far (p := ⟨gb153, 5, none⟩) (Kd.R_far (p := ⟨gb153, 4, none⟩) (Kd.R_far (p := ⟨gb153, 3, none⟩) (Kd.R_far (p := ⟨gb153, 2, none⟩) (Kd.R_far (p := ⟨gb153, 1, none⟩) (Kd.R_far (p := ⟨gb153, 0, none⟩) (Kd.R_types HO159.out BK153.out (by decide)) (fun _ hk => hk.2) (.int .i64 5)) (fun _ hk => hk.2) (.slice Ao36 y154.length co36)) (fun _ hk => hk.2) (.slice Ao35 y157.length co35)) (fun _ hk => hk.2) (.slice Ao34 y160.length co34)) (fun _ hk => hk.2) (.slice Ao33 y171.length co33)) (fun _ hk => hk.2) (.slice Ao32 y186.length co32)) (fun _ hk => hk.1.2), by (with_reducible repeat (first | apply Kd.qas | apply Kd.qat | apply Kd.qaw)); exact Kd.R_mono (Kd.R_far (p := ⟨gb153, 5, none⟩) (Kd.R_far (p := ⟨gb153, 4, none⟩) (Kd.R_far (p := ⟨gb153, 3, none⟩) (Kd.R_far (p := ⟨gb153, 2, none⟩) (Kd.R_far (p := ⟨gb153, 1, none⟩) (Kd.R_far (p := ⟨gb153, 0, none⟩) (Kd.R_types HO162.out BK153.out (by decide)) (fun _ hk => hk.2) (.int .i64 5)) (fun _ hk => hk.2) (.slice Ao36 y154.length co36)) (fun _ hk => hk.2) (.slice Ao35 y157.length co35)) (fun _ hk => hk.2) (.slice Ao34 y160.length co34)) (fun _ hk => hk.2) (.slice Ao33 y171.length co33)) (fun _ hk => hk.2) (.slice Ao32 y186.length co32)) (fun _ hk => hk.1.2), by (with_reducible repeat (first | apply Kd.qas | apply Kd.qat | apply Kd.qaw)); exact Kd.R_mono (Kd.R_far (p := ⟨gb153, 5, none⟩) (Kd.R_far (p := ⟨gb153, 4, none⟩) (Kd.R_far (p := ⟨gb153, 3, none⟩) (Kd.R_far (p := ⟨gb153, 2, none⟩) (Kd.R_far (p := ⟨gb153, 1, none⟩) (Kd.R_far (p := ⟨gb153, 0, none⟩) (Kd.R_types HO173.out BK153.out (by decide)) (fun _ hk => hk.2) (.int .i64 5)) (fun _ hk => hk.2) (.slice Ao36 y154.length co36)) (fun _ hk => hk.2) (.slice Ao35 y157.length co35)) (fun _ hk => hk.2) (.slice Ao34 y160.length co34)) (fun _ hk => hk.2) (.slice Ao33 y171.length co33)) (fun _ hk => hk.2) (.slice Ao32 y186.length co32)) (fun _ hk => trivial), by (with_reducible repeat (first | apply Kd.qas | apply Kd.qat | apply Kd.qaw)); exact Kd.R_mono (Kd.R_far (p := ⟨gb153, 5, none⟩) (Kd.R_far (p := ⟨gb153, 4, none⟩) (Kd.R_far (p := ⟨gb153, 3, none⟩) (Kd.R_far (p := ⟨gb153, 2, none⟩) (Kd.R_far (p := ⟨gb153, 1, none⟩) (Kd.R_far (p := ⟨gb153, 0, none⟩) (Kd.R_types HO188.out BK153.out (by decide)) (fun _ hk => hk.2) (.int .i64 5)) (fun _ hk => hk.2) (.slice Ao36 y154.length co36)) (fun _ hk => hk.2) (.slice Ao35 y157.length co35)) (fun _ hk => hk.2) (.slice Ao34 y160.length co34)) (fun _ hk => hk.2) (.slice Ao33 y171.length co33)) (fun _ hk => hk.2) (.slice Ao32 y186.length co32)) (fun _ hk => trivial), by repeat (first | (with_reducible first | exact HB.out | apply qag | apply qaf | apply qah | refine qaj ?_ GE153.out) | exact HB.out)⟩
end Go.Proofs.Ytafkanmioinbiaa.SA
