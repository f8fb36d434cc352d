/- What functions of the program answer. No condition. -/
import Derived.RangeFuncNested
import Derived.RangeFuncBound
import Derived.RangeFuncCalls
import Derived.RangeFuncLeaves
import Derived.RangeFuncBox
import Derived.Shelf.Abstract
import Derived.Shelf.RegionOpen
import Derived.OwnWalkIn
import Derived.TacticsInMore
import Derived.LoopNIn
import Derived.LoopIn
import Derived.Recover
import Derived.Defers
import Derived.WalkLawsBesides
import Derived.WalkSmall
import Derived.Test.YtipphcjgdebecaaPiE
import Derived.Test.YtipphcjgdebecaaSC
import Derived.Test.YtipphcjgdebecaaSJ
import Derived.Test.YtipphcjgdebecaaSM
import Derived.Test.YtipphcjgdebecaaPiA
import Derived.Test.YtipphcjgdebecaaPiC
import Derived.Test.YtipphcjgdebecaaSD
import Derived.Test.YtipphcjgdebecaaPiB
import Derived.Test.YtipphcjgdebecaaSF
import Derived.Test.YtipphcjgdebecaaPiD
import Derived.Test.YtipphcjgdebecaaSG
set_option linter.all false
set_option maxRecDepth 100000
set_option maxHeartbeats 8000000
namespace Go.Proofs.Ytipphcjgdebecaa.PA
open Go.RowKit Go.Shelf Go.Proofs.YtipphcjgdebecaaW.PrintWords Go.Proofs.YtipphcjgdebecaaW.PrintLast Go.Proofs.YtipphcjgdebecaaW.PrintMore
attribute [local go_sem] max2_int min2_int max_two min_two qas qat max_four min_four
structure ITI (w wm : World) (gb : Nat) (nb : Array Value) (W : World) : Prop where
 b : W.heap[gb]? = some (.cells nb 26 (0, 0))
 hb : Below w.heap.size w W
 hm : Below wm.heap.size wm W
theorem ITI.below {w wm W W' : World} {gb : Nat} {nb : Array Value} (h : ITI w wm gb nb W) (hb : Below W.heap.size W W') : ITI w wm gb nb W' := ⟨qag h.b hb, qad h.hb hb, qad h.hm hb⟩
theorem ITI.put {w wm W : World} {gb g : Nat} {nb : Array Value} (h : ITI w wm gb nb W) (hg : w.heap.size ≤ g) (hm : wm.heap.size ≤ g) (i : Nat) (v : Value) (hne : gb ≠ g) : ITI w wm gb nb (W.setCell ⟨g, i, none⟩ v) := ⟨blk_far (p := ⟨g, i, none⟩) h.b hne v, qai h.hb hg, qai h.hm hm⟩
structure IRel (w wm : World) (gb : Nat) (nb : Array Value) (l0 : List S39) (l1 : List S37) (l2 : List (List Int)) (o : List Int) (s14 s15 s16 : Value) (W : World) : Prop where
 out : ∃ (k : Nat) (p h H : Int), k ≤ o.length ∧ s14 = .int .i64 p ∧ s15 = .int .i64 h ∧ s16 = .int .i64 k ∧ qab (StI l0 l1 l2 o k p h H) ∧ qab (ITI w wm gb nb W)
theorem intime_go (A0_0 : Option Addr) (c0_0 : Nat) (l0_0 : List S39) (A0_1 : Option Addr) (c0_1 : Nat) (l0_1 : List S37) (A0_2 : Option Addr) (c0_2 : Nat) (l0_2 : List (List Int)) (a1 a2 : Int) (A3 : Option Addr) (c3 : Nat) (l3 : List Int) (A4 : Option Addr) (c4 : Nat) (l4 : List Int) (w : World)
  (hr0_0 : Kd.C k39 w A0_0 l0_0.length l0_0) (hc0_0 : l0_0.length ≤ c0_0) (hr0_1 : Kd.C k37 w A0_1 l0_1.length l0_1) (hc0_1 : l0_1.length ≤ c0_1) (hr0_2 : Kd.C (Kd.slice 3 (Kd.int .i64)) w A0_2 l0_2.length l0_2) (hc0_2 : l0_2.length ≤ c0_2)
  (hr3 : Kd.C (Kd.int .i64) w A3 l3.length l3) (hc3 : l3.length ≤ c3) (hr4 : Kd.C (Kd.int .i64) w A4 l4.length l4) (hc4 : l4.length ≤ c4)
  (hsh : Short l0_0 l0_1 l0_2) (hv : validB l0_0 l0_1 l0_2 = true) (hp : 0 ≤ a1 ∧ a1 ≤ (l0_0.length : Int)) (hf : inFault l0_0 a2 = true) (hq : Percents l3) (hwh : Percents l4) (s0 e0 : Int) (o : List Int)
  (hor : pipe_Order.f 10 l0_0 l0_1 l0_2 a1 a2 = some (o, s0, 0)) (hsl : 0 ≤ sl l0_0 l0_2 (duesI l0_0 l0_1) l0_1.length a1 0 o) (hol : o.length ≤ 5) (hox : ∀ x ∈ o, 0 ≤ x ∧ x < (l0_0.length : Int)) (hbo : talikref04_IsOrder.f 130 l0_0 l0_1 l0_2 a2 o = some true) :
  Calls Try.prog 7 #[.agg #[.slice A0_0 l0_0.length c0_0, .slice A0_1 l0_1.length c0_1, .slice A0_2 l0_2.length c0_2], .int .i64 a1, .int .i64 a2, .slice A3 l3.length c3, .slice A4 l4.length c4] w fun e w' => e = .returned (.bool true) ∧ Below w.heap.size w w' := by
 have hu26 := Try.underlying26
 have hu37 := Try.underlying37
 have HB := qab.mk (Below.refl w.heap.size w)
 have HR0 := qab.mk hr0_0
 have HR1 := qab.mk hr0_1
 have HR2 := qab.mk hr0_2
 have HRL := qab.mk hr3
 have HRL4 := qab.mk hr4
 clear hr0_0 hr0_1 hr0_2 hr3 hr4
 have HHV := qab.mk hv
 have HHQ := qab.mk hq
 have HHW := qab.mk hwh
 have HOX := qab.mk hox
 have hN := net_ok hv
 have hn0 := hN.n0
 have hn1 := hN.n1
 have hh := hN.h1
 have HMW := qab.mk hN.m
 have HSHORT : qab (∀ W, Below w.heap.size w W → Calls Try.prog 16 #[.agg #[.slice A0_0 l0_0.length c0_0, .slice A0_1 l0_1.length c0_1, .slice A0_2 l0_2.length c0_2]] W fun e w' => e = .returned (.bool (shortB l0_0 l0_1 l0_2)) ∧ Below W.heap.size W w') := ⟨fun W hW => (taliklaw04_short.calls 30 _ _ l0_0 _ _ l0_1 _ _ l0_2 _ W (Kd.qal HR0.out hW) hc0_0 (Kd.qal HR1.out hW) hc0_1 (Kd.qal HR2.out hW) hc0_2 (short_eq l0_0 l0_1 l0_2 30 (by omega))).mono fun e w' ⟨h1, h2⟩ => ⟨h1, h2⟩⟩
 have HKNOWN : qab (∀ W, Below w.heap.size w W → Calls Try.prog 17 #[] W fun e w' => e = .returned (.bool true) ∧ Below W.heap.size W w') := ⟨fun W hW => taliklaw04_known.calls true W rfl⟩
 have HNET : qab (∀ W, Below w.heap.size w W → Calls Try.prog 19 #[.agg #[.slice A0_0 l0_0.length c0_0, .slice A0_1 l0_1.length c0_1, .slice A0_2 l0_2.length c0_2]] W fun e w' => e = .returned (.bool (validB l0_0 l0_1 l0_2)) ∧ Below W.heap.size W w') := ⟨fun W hW => (talikref04_Net.calls _ _ l0_0 _ _ l0_1 _ _ l0_2 _ W (Kd.qal HR0.out hW) hc0_0 (Kd.qal HR1.out hW) hc0_1 (Kd.qal HR2.out hW) hc0_2 (net_eq l0_0 l0_1 l0_2 hsh 300 (by omega))).mono fun e w' ⟨h1, h2⟩ => ⟨h1, h2⟩⟩
 have hs1 : shortB l0_0 l0_1 l0_2 = true := of_short hsh
 rw [hs1] at HSHORT
 rw [hv] at HNET
 have HPLA : qab (∀ W, Below w.heap.size w W → Calls Try.prog 25 #[.agg #[.slice A0_0 l0_0.length c0_0, .slice A0_1 l0_1.length c0_1, .slice A0_2 l0_2.length c0_2], .int .i64 a1] W fun e w' => e = .returned (.bool true) ∧ Below W.heap.size W w') := ⟨fun W hW => (talikref04_Place.calls _ _ l0_0 _ _ l0_1 _ _ l0_2 a1 _ W (Kd.qal HR0.out hW) hc0_0 (Kd.qal HR1.out hW) hc0_1 (Kd.qal HR2.out hW) hc0_2 (by rw [rplace_eq, inB_of hp.1 hp.2])).mono fun e w' ⟨h1, h2⟩ => ⟨h1, h2⟩⟩
 have HFA : qab (∀ W, Below w.heap.size w W → Calls Try.prog 26 #[.agg #[.slice A0_0 l0_0.length c0_0, .slice A0_1 l0_1.length c0_1, .slice A0_2 l0_2.length c0_2], .int .i64 a2] W fun e w' => e = .returned (.bool true) ∧ Below W.heap.size W w') := ⟨fun W hW => (talikref04_Fault.calls 10 _ _ l0_0 _ _ l0_1 _ _ l0_2 a2 _ W (Kd.qal HR0.out hW) hc0_0 (Kd.qal HR1.out hW) hc0_1 (Kd.qal HR2.out hW) hc0_2 (by rw [rfault_eq l0_0 l0_1 l0_2 (by omega) a2 10 (by omega), hf])).mono fun e w' ⟨h1, h2⟩ => ⟨h1, h2⟩⟩
 have HPC : qab (∀ W, Below w.heap.size w W → Calls Try.prog 33 #[.slice A3 l3.length c3] W fun e w' => e = .returned (.bool true) ∧ Below W.heap.size W w') := ⟨fun W hW => (taliklaw04_percents.calls (l3.length + 1) _ _ l3 _ W (Kd.qal HRL.out hW) hc3 (percents_true hq)).mono fun e w' ⟨h1, h2⟩ => ⟨h1, h2.below⟩⟩
 have HPC4 : qab (∀ W, Below w.heap.size w W → Calls Try.prog 33 #[.slice A4 l4.length c4] W fun e w' => e = .returned (.bool true) ∧ Below W.heap.size W w') := ⟨fun W hW => (taliklaw04_percents.calls (l4.length + 1) _ _ l4 _ W (Kd.qal HRL4.out hW) hc4 (percents_true hwh)).mono fun e w' ⟨h1, h2⟩ => ⟨h1, h2.below⟩⟩
 have HO : qab (∀ W, Below w.heap.size w W → Calls Try.prog 24 #[.agg #[.slice A0_0 l0_0.length c0_0, .slice A0_1 l0_1.length c0_1, .slice A0_2 l0_2.length c0_2], .int .i64 a1, .int .i64 a2] W fun e w' => ∃ v, e = .returned (.tuple #[v, .int .i64 s0, .int .i64 0]) ∧ Kd.R (Kd.int .i64) 3 w' W.heap.size (fun _ => True) v o ∧ Below W.heap.size W w') := ⟨fun W hW => pipe_Order.calls 10 _ _ l0_0 _ _ l0_1 _ _ l0_2 a1 a2 _ _ _ W (Kd.qal HR0.out hW) hc0_0 (Kd.qal HR1.out hW) hc0_1 (Kd.qal HR2.out hW) hc0_2 hor⟩
 have HIO : qab (∀ A c W, Below w.heap.size w W → Kd.C (Kd.int .i64) W A o.length o → o.length ≤ c → Calls Try.prog 29 #[.agg #[.slice A0_0 l0_0.length c0_0, .slice A0_1 l0_1.length c0_1, .slice A0_2 l0_2.length c0_2], .int .i64 a2, .slice A o.length c] W fun e w' => e = .returned (.bool true) ∧ Below W.heap.size W w') := ⟨fun A c W hW hC hc => talikref04_IsOrder.calls 130 _ _ l0_0 _ _ l0_1 _ _ l0_2 a2 A c o _ W (Kd.qal HR0.out hW) hc0_0 (Kd.qal HR1.out hW) hc0_1 (Kd.qal HR2.out hW) hc0_2 hC hc hbo⟩
 have hst : StI l0_0 l0_1 l0_2 o 0 a1 0 0 := ⟨hp.1, hp.2, Int.le_refl _, Int.le_refl _, by omega, hsl⟩
 have HST := qab.mk hst
 have d8 : decide ((8 : Int) < o.length) = false := decide_eq_false (by omega)
 clear hst hsl hor hbo hf hp hv hq hwh hN hsh hs1 hox
 go_enter Try.func7, Try.ntmps7
 go_upto_region 8 with (first | ((with_reducible refine qan (N := 5) rfl ?_); refine qam ?hg (N := 5) ?hd (cs := #[.slice A0_0 l0_0.length c0_0, .slice A0_1 l0_1.length c0_1, .slice A0_2 l0_2.length c0_2]) (t := 26) ?hr ?_; (case hd => rfl); (case hg => rfl); (case hr => first | (go_simp; done) | (go_simp; rfl)); intro gb hg_gb w2 hbox hb; have BKgb := qab.mk hbox; have n_HB := qab.mk (qad HB.out hb); have GEgb : w.heap.size ≤ gb := (by rw [hg_gb]; exact HB.out.size); clear HB; have HB := n_HB; clear n_HB; obtain ⟨hfgb, hcgb_0, hcgb_1, hcgb_2⟩ := qz3 BKgb.out; clear hbox hb hg_gb) | (go_at_call 16; with_reducible refine (HSHORT.out _ HB.out).mono ?_; rintro e wn ⟨rfl, hb⟩; replace BKgb := qab.mk (qag BKgb.out hb); replace HB := qab.mk (qad HB.out hb); clear hb; obtain ⟨hfgb, hcgb_0, hcgb_1, hcgb_2⟩ := qz3 BKgb.out) | (go_at_call 19; with_reducible refine (HNET.out _ HB.out).mono ?_; rintro e wn ⟨rfl, hb⟩; replace BKgb := qab.mk (qag BKgb.out hb); replace HB := qab.mk (qad HB.out hb); clear hb; obtain ⟨hfgb, hcgb_0, hcgb_1, hcgb_2⟩ := qz3 BKgb.out) | (go_at_call 25; with_reducible refine (HPLA.out _ HB.out).mono ?_; rintro e wn ⟨rfl, hb⟩; replace BKgb := qab.mk (qag BKgb.out hb); replace HB := qab.mk (qad HB.out hb); clear hb; obtain ⟨hfgb, hcgb_0, hcgb_1, hcgb_2⟩ := qz3 BKgb.out) | (go_at_call 26; with_reducible refine (HFA.out _ HB.out).mono ?_; rintro e wn ⟨rfl, hb⟩; replace BKgb := qab.mk (qag BKgb.out hb); replace HB := qab.mk (qad HB.out hb); clear hb; obtain ⟨hfgb, hcgb_0, hcgb_1, hcgb_2⟩ := qz3 BKgb.out) | (go_at_call 33; with_reducible refine (HPC.out _ HB.out).mono ?_; rintro e wn ⟨rfl, hb⟩; replace BKgb := qab.mk (qag BKgb.out hb); replace HB := qab.mk (qad HB.out hb); clear hb; obtain ⟨hfgb, hcgb_0, hcgb_1, hcgb_2⟩ := qz3 BKgb.out) | (go_at_call 33; with_reducible refine (HPC4.out _ HB.out).mono ?_; rintro e wn ⟨rfl, hb⟩; replace BKgb := qab.mk (qag BKgb.out hb); replace HB := qab.mk (qad HB.out hb); clear hb; obtain ⟨hfgb, hcgb_0, hcgb_1, hcgb_2⟩ := qz3 BKgb.out) | (go_at_call 24; (with_reducible refine (HO.out _ HB.out).mono ?_); rintro e wn ⟨v9, rfl, ho, hb⟩; obtain ⟨oA, oc, rfl⟩ := Kd.R_slice ho; have HOC := qab.mk (Kd.R_reads' ho).2.2; have hoc := (Kd.R_reads' ho).2.1; clear ho; replace BKgb := qab.mk (qag BKgb.out hb); replace HB := qab.mk (qad HB.out hb); clear hb; obtain ⟨hfgb, hcgb_0, hcgb_1, hcgb_2⟩ := qz3 BKgb.out) | (go_at_call 29; (with_reducible refine (HIO.out oA oc _ HB.out HOC.out hoc).mono ?_); rintro e wm ⟨rfl, hb⟩; replace HOC := qab.mk (Kd.qal HOC.out hb); replace BKgb := qab.mk (qag BKgb.out hb); replace HB := qab.mk (qad HB.out hb); clear hb; obtain ⟨hfgb, hcgb_0, hcgb_1, hcgb_2⟩ := qz3 BKgb.out))
 clear hfgb hcgb_0 hcgb_1 hcgb_2 HSHORT HNET HPLA HFA HPC HPC4 HO HIO
 have HOC0 : qab (∀ W, Below wm.heap.size wm W → Kd.C (Kd.int .i64) W oA o.length o) := ⟨fun W h => Kd.qal HOC.out h⟩
 have HI : qab (BIN w gb #[.slice A0_0 l0_0.length c0_0, .slice A0_1 l0_1.length c0_1, .slice A0_2 l0_2.length c0_2] wm) := ⟨⟨BKgb.out, HB.out⟩⟩
 clear BKgb HB GEgb
 go_cut [14, 15] from 21 to 182 (fun s14 s15 w' => s14 = .int .i64 a1 ∧ s15 = .int .i64 0 ∧ qab (ITI w wm gb #[.slice A0_0 l0_0.length c0_0, .slice A0_1 l0_1.length c0_1, .slice A0_2 l0_2.length c0_2] w'))
 case first =>
  go_wp2
  go_meet
  case rel => exact ⟨rfl, rfl, ⟨⟨HI.out.b, HI.out.hb, Below.refl _ _⟩⟩⟩
 case rest =>
 obtain ⟨rfl, rfl, HITc⟩ := hcut
 clear HI
 go_wp2
 go_loopw [14, 15, 16] (fun s14 s15 s16 wr => IRel w wm gb #[.slice A0_0 l0_0.length c0_0, .slice A0_1 l0_1.length c0_1, .slice A0_2 l0_2.length c0_2] l0_0 l0_1 l0_2 o s14 s15 s16 wr) (fun _ _ s16 _ => o.length - (intOf s16).toNat)
 case atStart => exact ⟨⟨0, a1, 0, 0, by omega, rfl, rfl, rfl, HST, HITc⟩⟩
 case round =>
  clear HITc HST
  obtain ⟨⟨k, p, h, H, hk, rfl, rfl, rfl, HST, HIT0⟩⟩ := hrel
  by_cases hlt : k < o.length
  ·
   have hlt1 : (k : Int) < o.length := by omega
   have hk0 : (0 : Int) ≤ k := by omega
   have hst := HST.out
   obtain ⟨pn, hpn⟩ := Int.eq_ofNat_of_zero_le hst.p0
   have hxr := HOX.out _ (List.getElem_mem hlt)
   obtain ⟨xn, hxn⟩ := Int.eq_ofNat_of_zero_le hxr.1
   have hqb := fun j => whL_bd HHQ.out j
   have hstep := st_step HHV.out hst hlt hxr.1 hxr.2 (whL l3 (2 * k)) (whL l3 (2 * k + 1)) (hqb _).1 (hqb _).2 (hqb _).1 (hqb _).2
   have hpl := hst.p1
   subst hpn
   rw [hxn] at hxr hstep
   have hN := net_ok HHV.out
   have hbw := bok_ways hN (pn : Int) (xn : Int) (by omega) hpl hxr.1 hxr.2
   have hL := hN.loops _ (rdT39_mem hxr.1 hxr.2)
   have hfx := And.intro hL.x0 (And.intro hL.x1 hL.x2)
   obtain ⟨ad2, rA, rc, rfl, hrow, hrc, hrC⟩ := at_L1 HR2.out (pn : Int) (by omega) (by have := HMW.out; omega)
   rw [hbw.2.2] at hrow hrC
   obtain ⟨ra, rfl, hwy⟩ := Kd.at_int hrC ((xn : Int) + 1) (by omega) (by omega)
   obtain ⟨ad, rfl, hl0, hl1, hl2, hl3, hl4, hl5, hl6, hl7, hl8, hl9, hl10, hl11⟩ := at_T39 HR0.out (xn : Int) hxr.1 hxr.2
   obtain ⟨ao, rfl, hox⟩ := Kd.at_int (HOC0.out wm (Below.refl _ _)) (k : Int) hk0 hlt1
   rw [show rd o (k : Int) = (xn : Int) from by rw [rd_at o k hlt, hxn]] at hox
   rw [show ((xn : Int) + 1).toNat = xn + 1 from by omega] at hwy
   simp only [Int.toNat_natCast] at hrow hox hl0 hl1 hl2 hl3 hl4 hl5 hl6 hl7 hl8 hl9 hl10 hl11
   obtain ⟨wy, hwye⟩ : ∃ x, x = rd (rd_L1 l0_2 (pn : Int)) ((xn : Int) + 1) := ⟨_, rfl⟩
   obtain ⟨t0, ht0⟩ : ∃ x, x = (qaj l0_0 (xn : Int)).f7.f0 := ⟨_, rfl⟩
   obtain ⟨t1, ht1⟩ : ∃ x, x = (qaj l0_0 (xn : Int)).f7.f1 := ⟨_, rfl⟩
   rw [← hwye] at hwy hstep hbw
   rw [← ht0] at hl10 hstep hfx
   rw [← ht1] at hl11 hstep hfx
   have hwy' : w.cell? ⟨ra.block, ra.off + (xn + 1), none⟩ = some (.int .i64 wy) := by simpa [Addr.add] using hwy
   have HC := qab.mk (And.intro hrow (And.intro hwy' (And.intro hox (And.intro hl10 hl11))))
   have HWA := qab.mk (And.intro hl0 hl1)
   have HSTEP := qab.mk hstep
   have HBND := qab.mk (And.intro hbw.1 (And.intro hbw.2.1 hfx))
   have HXR := qab.mk hxr
   clear hrow hwy hwy' hox hl0 hl1 hl2 hl3 hl4 hl5 hl6 hl7 hl8 hl9 hl10 hl11 hstep hst hxn hwye ht0 ht1 hN hbw hL hfx hqb hrC hrc
   have hp0 : (0 : Int) ≤ (pn : Int) := by omega
   have hp1 : (pn : Int) < (l0_2.length : Int) := by have := HMW.out; omega
   have hx0 : (0 : Int) ≤ (xn : Int) := HXR.out.1
   have hx1 : (xn : Int) < (l0_0.length : Int) := HXR.out.2
   have hx2 : (0 : Int) ≤ (xn : Int) + 1 := by omega
   have hx3 : (xn : Int) + 1 < ((l0_0.length + 1 : Nat) : Int) := by omega
   have hw1 : IntKind.i64.wrap ((xn : Int) + 1) = (xn : Int) + 1 := by rw [i64_w]; unfold wrap64; omega
   have HT : qab (∀ W, ITI w wm gb #[.slice (some ad) l0_0.length c0_0, .slice A0_1 l0_1.length c0_1, .slice (some ad2) l0_2.length c0_2] W → (W.cell? ⟨gb, 0, none⟩ = some (.slice (some ad) l0_0.length c0_0) ∧ W.cell? ⟨gb, 2, none⟩ = some (.slice (some ad2) l0_2.length c0_2) ∧ W.cell? (ad2.add pn) = some (.slice (some ra) (l0_0.length + 1) rc) ∧ W.cell? ⟨ra.block, ra.off + (xn + 1), none⟩ = some (.int .i64 wy) ∧ W.cell? (ao.add k) = some (.int .i64 xn) ∧ W.cell? ⟨(ad.add (xn * 12)).block, (ad.add (xn * 12)).off + 10, none⟩ = some (.int .i64 t0) ∧ W.cell? ⟨(ad.add (xn * 12)).block, (ad.add (xn * 12)).off + 11, none⟩ = some (.int .i64 t1) ∧ qab (ITI w wm gb #[.slice (some ad) l0_0.length c0_0, .slice A0_1 l0_1.length c0_1, .slice (some ad2) l0_2.length c0_2] W))) := ⟨fun W h => ⟨qaa h.b 0, qaa h.b 2, (h.hb.cell (World.block_lt_of_cell? w _ HC.out.1)).trans HC.out.1, (h.hb.cell (World.block_lt_of_cell? w _ HC.out.2.1)).trans HC.out.2.1, (h.hm.cell (World.block_lt_of_cell? wm _ HC.out.2.2.1)).trans HC.out.2.2.1, (h.hb.cell (World.block_lt_of_cell? w _ HC.out.2.2.2.1)).trans HC.out.2.2.2.1, (h.hb.cell (World.block_lt_of_cell? w _ HC.out.2.2.2.2)).trans HC.out.2.2.2.2, ⟨h⟩⟩⟩
   go_upto_region 12 with fail
   go_cut [17, 18] from 78 to 181 (fun s17 s18 w' => ∃ g18, s17 = .int .i64 wy ∧ s18 = .pointer (some ⟨g18, 0, none⟩) ∧ qab (ITI w wm gb #[.slice (some ad) l0_0.length c0_0, .slice A0_1 l0_1.length c0_1, .slice (some ad2) l0_2.length c0_2] w') ∧ qab (w'.heap[g18]? = some (.cells #[.int .i64 t0, .int .i64 t1] 37 (0, 0))))
   case first =>
    refine start_ (n := 24) (S := (fun w' => (w'.cell? ⟨gb, 0, none⟩ = some (.slice (some ad) l0_0.length c0_0) ∧ w'.cell? ⟨gb, 2, none⟩ = some (.slice (some ad2) l0_2.length c0_2) ∧ w'.cell? (ad2.add pn) = some (.slice (some ra) (l0_0.length + 1) rc) ∧ w'.cell? ⟨ra.block, ra.off + (xn + 1), none⟩ = some (.int .i64 wy) ∧ w'.cell? (ao.add k) = some (.int .i64 xn) ∧ w'.cell? ⟨(ad.add (xn * 12)).block, (ad.add (xn * 12)).off + 10, none⟩ = some (.int .i64 t0) ∧ w'.cell? ⟨(ad.add (xn * 12)).block, (ad.add (xn * 12)).off + 11, none⟩ = some (.int .i64 t1) ∧ qab (ITI w wm gb #[.slice (some ad) l0_0.length c0_0, .slice A0_1 l0_1.length c0_1, .slice (some ad2) l0_2.length c0_2] w')))) (ds := [23]) (msk 24 0) (by kernel_rfl) rfl rfl (HT.out _ (ITI.below HIT0.out (below_drew (Below.refl _ _)))) (fun hHeld => ?_)
    generalize wr.drew = wk at hHeld ⊢
    refine pure_ (i := 0) (N := some 84) (v := ?_) (a' := ?_) (msk 24 1) rfl rfl (by kernel_rfl) (fun _ _ _ h => h) (Or.inl ⟨by rfl, ?_⟩) ?_ ?_; rotate_left; (focus (intro w'; go_simp; with_reducible rfl)); rotate_left; (focus (simp only [Act.put, qzA, qzB, qzC, i64_w, i32_w]; rfl))
    refine take_ (i := 1) (N := some 85) (v := ?_) (a' := ?_) (msk 24 2) rfl rfl (by kernel_rfl) (fun _ _ _ h => h) (Or.inl ⟨by rfl, ?_⟩) hHeld ?_ ?_; rotate_left; (focus (rintro w' ⟨s0, s1, s2, s3, s4, s5, s6, s7⟩; go_simp; with_reducible rfl)); rotate_left; (focus (simp only [Act.put, qzA, qzB, qzC, i64_w, i32_w]; rfl))
    refine pure_ (i := 2) (N := some 86) (v := ?_) (a' := ?_) (msk 24 3) rfl rfl (by kernel_rfl) (fun _ _ _ h => h) (Or.inl ⟨by rfl, ?_⟩) ?_ ?_; rotate_left; (focus (intro w'; go_simp; with_reducible rfl)); rotate_left; (focus (simp only [Act.put, qzA, qzB, qzC, i64_w, i32_w]; rfl))
    refine pure_ (i := 3) (N := some 87) (v := ?_) (a' := ?_) (msk 24 4) rfl rfl (by kernel_rfl) (fun _ _ _ h => h) (Or.inl ⟨by rfl, ?_⟩) ?_ ?_; rotate_left; (focus (intro w'; go_simp; with_reducible rfl)); rotate_left; (focus (simp only [Act.put, qzA, qzB, qzC, i64_w, i32_w]; rfl))
    refine take_ (i := 4) (N := some 88) (v := ?_) (a' := ?_) (msk 24 5) rfl rfl (by kernel_rfl) (fun _ _ _ h => h) (Or.inl ⟨by rfl, ?_⟩) hHeld ?_ ?_; rotate_left; (focus (rintro w' ⟨s0, s1, s2, s3, s4, s5, s6, s7⟩; go_simp; with_reducible rfl)); rotate_left; (focus (simp only [Act.put, qzA, qzB, qzC, i64_w, i32_w]; rfl))
    refine pure_ (i := 5) (N := some 89) (v := ?_) (a' := ?_) (msk 24 6) rfl rfl (by kernel_rfl) (fun _ _ _ h => h) (Or.inl ⟨by rfl, ?_⟩) ?_ ?_; rotate_left; (focus (intro w'; go_simp; with_reducible rfl)); rotate_left; (focus (simp only [Act.put, qzA, qzB, qzC, i64_w, i32_w]; rfl))
    refine pure_ (i := 6) (N := some 90) (v := ?_) (a' := ?_) (msk 24 7) rfl rfl (by kernel_rfl) (fun _ _ _ h => h) (Or.inl ⟨by rfl, ?_⟩) ?_ ?_; rotate_left; (focus (intro w'; go_simp; with_reducible rfl)); rotate_left; (focus (simp only [Act.put, qzA, qzB, qzC, i64_w, i32_w]; rfl))
    refine pure_ (i := 7) (N := some 91) (v := ?_) (a' := ?_) (msk 24 8) rfl rfl (by kernel_rfl) (fun _ _ _ h => h) (Or.inl ⟨by rfl, ?_⟩) ?_ ?_; rotate_left; (focus (intro w'; go_simp; with_reducible rfl)); rotate_left; (focus (simp only [Act.put, qzA, qzB, qzC, i64_w, i32_w]; rfl))
    refine take_ (i := 8) (N := some 92) (v := ?_) (a' := ?_) (msk 24 9) rfl rfl (by kernel_rfl) (fun _ _ _ h => h) (Or.inl ⟨by rfl, ?_⟩) hHeld ?_ ?_; rotate_left; (focus (rintro w' ⟨s0, s1, s2, s3, s4, s5, s6, s7⟩; go_simp; with_reducible rfl)); rotate_left; (focus (simp only [Act.put, qzA, qzB, qzC, i64_w, i32_w]; rfl))
    refine pure_ (i := 9) (N := some 93) (v := ?_) (a' := ?_) (msk 24 10) rfl rfl (by kernel_rfl) (fun _ _ _ h => h) (Or.inl ⟨by rfl, ?_⟩) ?_ ?_; rotate_left; (focus (intro w'; go_simp; with_reducible rfl)); rotate_left; (focus (simp only [Act.put, qzA, qzB, qzC, i64_w, i32_w]; rfl))
    refine pure_ (i := 10) (N := some 94) (v := ?_) (a' := ?_) (msk 24 11) rfl rfl (by kernel_rfl) (fun _ _ _ h => h) (Or.inl ⟨by rfl, ?_⟩) ?_ ?_; rotate_left; (focus (intro w'; go_simp; with_reducible rfl)); rotate_left; (focus (simp only [Act.put, qzA, qzB, qzC, i64_w, i32_w]; rfl))
    refine take_ (i := 11) (N := some 95) (v := ?_) (a' := ?_) (msk 24 12) rfl rfl (by kernel_rfl) (fun _ _ _ h => h) (Or.inl ⟨by rfl, ?_⟩) hHeld ?_ ?_; rotate_left; (focus (rintro w' ⟨s0, s1, s2, s3, s4, s5, s6, s7⟩; go_simp; with_reducible rfl)); rotate_left; (focus (simp only [Act.put, qzA, qzB, qzC, i64_w, i32_w]; rfl))
    refine pure_ (i := 12) (N := some 96) (v := ?_) (a' := ?_) (msk 24 13) rfl rfl (by kernel_rfl) (fun _ _ _ h => h) (Or.inl ⟨by rfl, ?_⟩) ?_ ?_; rotate_left; (focus (intro w'; go_simp; with_reducible rfl)); rotate_left; (focus (simp only [Act.put, qzA, qzB, qzC, i64_w, i32_w]; rfl))
    refine take_ (i := 13) (N := some 97) (v := ?_) (a' := ?_) (msk 24 14) rfl rfl (by kernel_rfl) (fun _ _ _ h => h) (Or.inl ⟨by rfl, ?_⟩) hHeld ?_ ?_; rotate_left; (focus (rintro w' ⟨s0, s1, s2, s3, s4, s5, s6, s7⟩; go_simp; with_reducible rfl)); rotate_left; (focus (simp only [Act.put, qzA, qzB, qzC, i64_w, i32_w]; rfl))
    refine pure_ (i := 14) (N := some 98) (v := ?_) (a' := ?_) (msk 24 15) rfl rfl (by kernel_rfl) (fun _ _ _ h => h) (Or.inl ⟨by rfl, ?_⟩) ?_ ?_; rotate_left; (focus (intro w'; go_simp; with_reducible rfl)); rotate_left; (focus (simp only [Act.put, qzA, qzB, qzC, i64_w, i32_w]; rfl))
    refine pure_ (i := 15) (N := some 99) (v := ?_) (a' := ?_) (msk 24 16) rfl rfl (by kernel_rfl) (fun _ _ _ h => h) (Or.inl ⟨by rfl, ?_⟩) ?_ ?_; rotate_left; (focus (intro w'; go_simp; with_reducible rfl)); rotate_left; (focus (simp only [Act.put, qzA, qzB, qzC, i64_w, i32_w]; rfl))
    refine pure_ (i := 16) (N := some 100) (v := ?_) (a' := ?_) (msk 24 17) rfl rfl (by kernel_rfl) (fun _ _ _ h => h) (Or.inl ⟨by rfl, ?_⟩) ?_ ?_; rotate_left; (focus (intro w'; go_simp; with_reducible rfl)); rotate_left; (focus (simp only [Act.put, qzA, qzB, qzC, i64_w, i32_w]; rfl))
    refine take_ (i := 17) (N := some 101) (v := ?_) (a' := ?_) (msk 24 18) rfl rfl (by kernel_rfl) (fun _ _ _ h => h) (Or.inl ⟨by rfl, ?_⟩) hHeld ?_ ?_; rotate_left; (focus (rintro w' ⟨s0, s1, s2, s3, s4, s5, s6, s7⟩; go_simp; with_reducible rfl)); rotate_left; (focus (simp only [Act.put, qzA, qzB, qzC, i64_w, i32_w]; rfl))
    refine pure_ (i := 18) (N := some 102) (v := ?_) (a' := ?_) (msk 24 19) rfl rfl (by kernel_rfl) (fun _ _ _ h => h) (Or.inl ⟨by rfl, ?_⟩) ?_ ?_; rotate_left; (focus (intro w'; go_simp; with_reducible rfl)); rotate_left; (focus (simp only [Act.put, qzA, qzB, qzC, i64_w, i32_w]; rfl))
    refine pure_ (i := 19) (N := some 103) (v := ?_) (a' := ?_) (msk 24 20) rfl rfl (by kernel_rfl) (fun _ _ _ h => h) (Or.inl ⟨by rfl, ?_⟩) ?_ ?_; rotate_left; (focus (intro w'; go_simp; with_reducible rfl)); rotate_left; (focus (simp only [Act.put, qzA, qzB, qzC, i64_w, i32_w]; rfl))
    refine take_ (i := 20) (N := some 104) (v := ?_) (a' := ?_) (msk 24 21) rfl rfl (by kernel_rfl) (fun _ _ _ h => h) (Or.inl ⟨by rfl, ?_⟩) hHeld ?_ ?_; rotate_left; (focus (rintro w' ⟨s0, s1, s2, s3, s4, s5, s6, s7⟩; go_simp; with_reducible rfl)); rotate_left; (focus (simp only [Act.put, qzA, qzB, qzC, i64_w, i32_w]; rfl))
    refine one_ (i := 21) (N := some 18) (msk 24 22) rfl rfl (by kernel_rfl) (by decide) (fun K hK => ?_); refine box_step ?hg (N := 18) ?hd (cs := #[.int .i64 0, .int .i64 0]) (t := 37) ?hr ?_; (case hd => rfl); (case hg => rfl); (case hr => first | (go_simp; done) | (go_simp; rfl)); intro g18 hg_ w12 hbox hb
    have hge : w.heap.size ≤ g18 := (by rw [hg_]; exact hHeld.2.2.2.2.2.2.2.out.hb.size); have hgm : wm.heap.size ≤ g18 := (by rw [hg_]; exact hHeld.2.2.2.2.2.2.2.out.hm.size); clear hg_; have HBK := qab.mk hbox; have HP12 := qab.mk (HT.out w12 (ITI.below hHeld.2.2.2.2.2.2.2.out hb)); clear hbox hb; have f18 := qac HBK.out; have b0 : w12.cell? ⟨g18, 0, none⟩ = some (.int .i64 0) := qaa HBK.out 0; have b1 : w12.cell? ⟨g18, 1, none⟩ = some (.int .i64 0) := qaa HBK.out 1
    refine hK.out _ _ HP12.out (fun hHeld => ?_); clear hK K; refine norm_ (a' := ?_) ?_ ?_; rotate_left; (focus (show Act.put _ (some 18) _ = _; simp only [Act.put, qzA, qzB, qzC, i64_w, i32_w]; rfl))
    refine pure_ (i := 22) (N := some 17) (v := ?_) (a' := ?_) (msk 24 23) rfl rfl (by kernel_rfl) (fun _ _ _ h => h) (Or.inl ⟨by rfl, ?_⟩) ?_ ?_; rotate_left; (focus (intro w'; go_simp; with_reducible rfl)); rotate_left; (focus (simp only [Act.put, qzA, qzB, qzC, i64_w, i32_w]; rfl))
    refine last_ (i := 23) (N := none) (msk 24 24) rfl rfl (by kernel_rfl) (by decide) (fun K hK => ?_); refine skip_ (w1 := ?_) (by rfl) rfl ?_ ?_; rotate_left; (focus (go_simp; rfl)); refine hK.out _ _ ?_; clear hK K hHeld
    have hit := ITI.put (ITI.put HP12.out.2.2.2.2.2.2.2.out hge hgm 0 (.int .i64 t0) (blk_ne HP12.out.2.2.2.2.2.2.2.out.b HBK.out (by decide))) hge hgm 1 (.int .i64 t1) (blk_ne HP12.out.2.2.2.2.2.2.2.out.b HBK.out (by decide)); have hbk := blk_set (blk_set HBK.out 0 (.int .i64 t0)) 1 (.int .i64 t1); generalize (w12.setCell ⟨g18, 0, none⟩ (.int .i64 t0)).setCell ⟨g18, 1, none⟩ (.int .i64 t1) = w13 at hit hbk ⊢; have HIT := qab.mk hit; have BK18 := qab.mk hbk; clear hit hbk HBK HP12 f18 b0 b1
    refine done_ (by kernel_rfl) ?_
    go_wp2_with fail
    go_meet
    case rel => exact ⟨g18, rfl, rfl, HIT, BK18⟩
   case rest =>
   obtain ⟨g18, rfl, rfl, HIT, BK18⟩ := hcut
   clear hw1 HT
   obtain ⟨q1, hq1⟩ : ∃ x, x = whL l3 (2 * k) := ⟨_, rfl⟩
   obtain ⟨q2, hq2⟩ : ∃ x, x = whL l3 (2 * k + 1) := ⟨_, rfl⟩
   have hlen3 := HHQ.out.len
   obtain ⟨i1, hi1⟩ : ∃ x, x = 2 * k % l3.length := ⟨_, rfl⟩
   obtain ⟨i2, hi2⟩ : ∃ x, x = (2 * k + 1) % l3.length := ⟨_, rfl⟩
   have hm1 : i1 < l3.length := by rw [hi1]; exact Nat.mod_lt _ (by omega)
   have hm2 : i2 < l3.length := by rw [hi2]; exact Nat.mod_lt _ (by omega)
   obtain ⟨af, rfl, hf1⟩ := Kd.at_int HRL.out (i1 : Int) (by omega) (by omega)
   obtain ⟨af', e, hf2⟩ := Kd.at_int HRL.out (i2 : Int) (by omega) (by omega)
   cases e
   rw [show rd l3 (i1 : Int) = q1 from by rw [hq1, hi1]; rfl] at hf1
   rw [show rd l3 (i2 : Int) = q2 from by rw [hq2, hi2]; rfl] at hf2
   simp only [Int.toNat_natCast] at hf1 hf2
   have hqb1 : 0 ≤ q1 ∧ q1 ≤ 100 := by rw [hq1]; exact whL_bd HHQ.out _
   have hqb2 : 0 ≤ q2 ∧ q2 ≤ 100 := by rw [hq2]; exact whL_bd HHQ.out _
   have HSTEP2 : qab (StI l0_0 l0_1 l0_2 o (k + 1) ((xn : Int) + 1) (h + pct wy q1 + max t0 (pct t1 q2)) (H + wy + t1) ∧ h + pct wy q1 + max t0 (pct t1 q2) ≤ dueI l0_0 l0_1 (xn : Int)) := ⟨by rw [hq1, hq2]; exact HSTEP.out⟩
   have HT13 : qab (wc.drew.cell? ⟨g18, 0, none⟩ = some (.int .i64 t0) ∧ wc.drew.cell? ⟨g18, 1, none⟩ = some (.int .i64 t1) ∧ wc.drew.cell? (af.add i1) = some (.int .i64 q1) ∧ wc.drew.cell? (af.add i2) = some (.int .i64 q2)) := ⟨⟨qaa BK18.out 0, qaa BK18.out 1, (HIT.out.hb.cell (World.block_lt_of_cell? w _ hf1)).trans hf1, (HIT.out.hb.cell (World.block_lt_of_cell? w _ hf2)).trans hf2⟩⟩
   have hk1000 : k ≤ 1000 := by omega
   have hne3 : ¬ l3 = [] := fun e => by rw [e] at hlen3; simp at hlen3
   have hm1' : (i1 : Int) < (l3.length : Int) := by omega
   have hm2' : (i2 : Int) < (l3.length : Int) := by omega
   have hm1z : (0 : Int) ≤ (i1 : Int) := by omega
   have hm2z : (0 : Int) ≤ (i2 : Int) := by omega
   have hbn := HBND.out
   have hst := HST.out
   have c1 := pct_bd hbn.1 hqb1.1 hqb1.2
   have c2 := pct_bd (show 0 ≤ t1 by omega) hqb2.1 hqb2.2
   have hh0 := hst.h0
   have hhH := hst.hH
   have hHb := hst.Hb
   have E1 : qab (wrap64 ((wrap64 (wy * q1)).tdiv 100) = pct wy q1) := ⟨pct_wrap hbn.1 hbn.2.1 hqb1.1 hqb1.2⟩
   have E2 : qab (wrap64 ((wrap64 (t1 * q2)).tdiv 100) = pct t1 q2) := ⟨pct_wrap (by omega) hbn.2.2.2.2 hqb2.1 hqb2.2⟩
   obtain ⟨v1, hv1⟩ : ∃ x, x = pct wy q1 := ⟨_, rfl⟩
   obtain ⟨v2, hv2⟩ : ∃ x, x = pct t1 q2 := ⟨_, rfl⟩
   obtain ⟨h2, hh2⟩ : ∃ x, x = h + v1 := ⟨_, rfl⟩
   obtain ⟨h3, hh3⟩ : ∃ x, x = h + v1 + max t0 v2 := ⟨_, rfl⟩
   rw [← hv1] at HSTEP2 E1 c1
   rw [← hv2] at HSTEP2 E2 c2
   rw [← hh3] at HSTEP2
   have E3 : qab (wrap64 (h + v1) = h2) := ⟨by rw [hh2, wrap_id (by omega) (by omega)]⟩
   have E5 : qab ((if t0 < v2 then v2 else t0) = max t0 v2) := ⟨by split <;> omega⟩
   have E4 : qab (wrap64 (h2 + max t0 v2) = h3) := ⟨by rw [hh2, hh3, wrap_id (by omega) (by omega)]⟩
   have E6 : qab ((wrap64 (2 * (k : Int))).tmod (l3.length : Int) = (i1 : Int)) := ⟨by
    rw [wrap_id (x := 2 * (k : Int)) (by omega) (by omega), show (2 * (k : Int)) = ((2 * k : Nat) : Int) from by omega, hi1]
    exact (Int.ofNat_tmod _ _).symm⟩
   have E7 : qab ((wrap64 (wrap64 (2 * (k : Int)) + 1)).tmod (l3.length : Int) = (i2 : Int)) := ⟨by
    rw [wrap_id (x := 2 * (k : Int)) (by omega) (by omega), wrap_id (by omega) (by omega), show (2 * (k : Int) + 1) = ((2 * k + 1 : Nat) : Int) from by omega, hi2]
    exact (Int.ofNat_tmod _ _).symm⟩
   have hd3 : h3 ≤ dueI l0_0 l0_1 (xn : Int) := HSTEP2.out.2
   have hdl := (bok (net_ok HHV.out)).due (xn : Int) hx0 hx1
   rw [rd_duesI l0_0 l0_1 _ hx0 hx1] at hdl
   have h30 : 0 ≤ h3 := HSTEP2.out.1.h0
   have h31 : h3 ≤ (l0_1.length : Int) := by omega
   have HNEXT : qab (StI l0_0 l0_1 l0_2 o (k + 1) ((xn : Int) + 1) h3 (H + wy + t1)) := ⟨HSTEP2.out.1⟩
   clear hf1 hf2 hq1 hq2 HSTEP HST hi1 hi2 hlen3 hbn hst c1 c2 hh0 hhH hHb hv1 hv2 hh2 hh3 HSTEP2 hqb1 hqb2 hdl
   have hd4 : decide ((l0_1.length : Int) < h3) = false := decide_eq_false (by omega)
   go_upto_region 13 with fail
   go_cut [15] from 78 to 181 (fun s15 w' => s15 = .int .i64 h3 ∧ qab (ITI w wm gb #[.slice (some ad) l0_0.length c0_0, .slice A0_1 l0_1.length c0_1, .slice (some ad2) l0_2.length c0_2] w'))
   case first =>
    have e1 := E1.out
    have e2 := E2.out
    have e3 := E3.out
    have e6 := E6.out
    have e7 := E7.out
    refine start_ (n := 31) (S := (fun w' => (w'.cell? ⟨g18, 0, none⟩ = some (.int .i64 t0) ∧ w'.cell? ⟨g18, 1, none⟩ = some (.int .i64 t1) ∧ w'.cell? (af.add i1) = some (.int .i64 q1) ∧ w'.cell? (af.add i2) = some (.int .i64 q2)))) (ds := []) (msk 31 0) (by kernel_rfl) rfl rfl (HT13.out) (fun hHeld => ?_)
    refine pure_ (i := 0) (N := some 105) (v := ?_) (a' := ?_) (msk 31 1) rfl rfl (by kernel_rfl) (fun _ _ _ h => h) (Or.inl ⟨by rfl, ?_⟩) ?_ ?_; rotate_left; (focus (intro w'; go_simp; with_reducible rfl)); rotate_left; (focus (simp only [Act.put, qzA, qzB, qzC, i64_w, i32_w]; rfl))
    refine pure_ (i := 1) (N := some 106) (v := ?_) (a' := ?_) (msk 31 2) rfl rfl (by kernel_rfl) (fun _ _ _ h => h) (Or.inl ⟨by rfl, ?_⟩) ?_ ?_; rotate_left; (focus (intro w'; go_simp; with_reducible rfl)); rotate_left; (focus (simp only [Act.put, qzA, qzB, qzC, i64_w, i32_w]; rfl))
    refine pure_ (i := 2) (N := some 107) (v := ?_) (a' := ?_) (msk 31 3) rfl rfl (by kernel_rfl) (fun _ _ _ h => h) (Or.inl ⟨by rfl, ?_⟩) ?_ ?_; rotate_left; (focus (intro w'; go_simp; with_reducible rfl)); rotate_left; (focus (simp only [Act.put, qzA, qzB, qzC, i64_w, i32_w]; rfl))
    refine pure_ (i := 3) (N := some 108) (v := ?_) (a' := ?_) (msk 31 4) rfl rfl (by kernel_rfl) (fun _ _ _ h => h) (Or.inl ⟨by rfl, ?_⟩) ?_ ?_; rotate_left; (focus (intro w'; go_simp; with_reducible rfl)); rotate_left; (focus (simp only [Act.put, qzA, qzB, qzC, i64_w, i32_w]; rfl))
    refine pure_ (i := 4) (N := some 109) (v := ?_) (a' := ?_) (msk 31 5) rfl rfl (by kernel_rfl) (fun _ _ _ h => h) (Or.inl ⟨by rfl, ?_⟩) ?_ ?_; rotate_left; (focus (intro w'; go_simp; with_reducible rfl)); rotate_left; (focus (simp only [Act.put, qzA, qzB, qzC, i64_w, i32_w]; rfl))
    refine pure_ (i := 5) (N := some 110) (v := ?_) (a' := ?_) (msk 31 6) rfl rfl (by kernel_rfl) (fun _ _ _ h => h) (Or.inl ⟨by rfl, ?_⟩) ?_ ?_; rotate_left; (focus (intro w'; go_simp; with_reducible rfl)); rotate_left; (focus (simp only [Act.put, qzA, qzB, qzC, i64_w, i32_w]; rfl))
    refine pure_ (i := 6) (N := some 111) (v := ?_) (a' := ?_) (msk 31 7) rfl rfl (by kernel_rfl) (fun _ _ _ h => h) (Or.inl ⟨by rfl, ?_⟩) ?_ ?_; rotate_left; (focus (intro w'; go_simp; with_reducible rfl)); rotate_left; (focus (simp only [Act.put, qzA, qzB, qzC, i64_w, i32_w]; rfl))
    refine pure_ (i := 7) (N := some 112) (v := ?_) (a' := ?_) (msk 31 8) rfl rfl (by kernel_rfl) (fun _ _ _ h => h) (Or.inl ⟨by rfl, ?_⟩) ?_ ?_; rotate_left; (focus (intro w'; go_simp; with_reducible rfl)); rotate_left; (focus (simp only [Act.put, qzA, qzB, qzC, i64_w, i32_w]; rfl))
    refine pure_ (i := 8) (N := some 113) (v := ?_) (a' := ?_) (msk 31 9) rfl rfl (by kernel_rfl) (fun _ _ _ h => h) (Or.inl ⟨by rfl, ?_⟩) ?_ ?_; rotate_left; (focus (intro w'; go_simp; with_reducible rfl)); rotate_left; (focus (simp only [Act.put, qzA, qzB, qzC, i64_w, i32_w]; rfl))
    refine take_ (i := 9) (N := some 114) (v := ?_) (a' := ?_) (msk 31 10) rfl rfl (by kernel_rfl) (fun _ _ _ h => h) (Or.inl ⟨by rfl, ?_⟩) hHeld ?_ ?_; rotate_left; (focus (rintro w' ⟨s0, s1, s2, s3⟩; go_simp; with_reducible rfl)); rotate_left; (focus (simp only [Act.put, qzA, qzB, qzC, i64_w, i32_w]; rfl))
    refine pure_ (i := 10) (N := some 115) (v := ?_) (a' := ?_) (msk 31 11) rfl rfl (by kernel_rfl) (fun _ _ _ h => h) (Or.inl ⟨by rfl, ?_⟩) ?_ ?_; rotate_left; (focus (intro w'; go_simp; with_reducible rfl)); rotate_left; (focus (simp only [Act.put, qzA, qzB, qzC, i64_w, i32_w]; rfl))
    refine pure_ (i := 11) (N := some 116) (v := ?_) (a' := ?_) (msk 31 12) rfl rfl (by kernel_rfl) (fun _ _ _ h => h) (Or.inl ⟨by rfl, ?_⟩) ?_ ?_; rotate_left; (focus (intro w'; go_simp; with_reducible rfl)); rotate_left; (focus (simp only [Act.put, qzA, qzB, qzC, i64_w, i32_w]; rfl))
    refine pure_ (i := 12) (N := some 117) (v := ?_) (a' := ?_) (msk 31 13) rfl rfl (by kernel_rfl) (fun _ _ _ h => h) (Or.inl ⟨by rfl, ?_⟩) ?_ ?_; rotate_left; (focus (intro w'; go_simp; with_reducible rfl)); rotate_left; (focus (simp only [Act.put, qzA, qzB, qzC, i64_w, i32_w]; rfl))
    refine pure_ (i := 13) (N := some 118) (v := ?_) (a' := ?_) (msk 31 14) rfl rfl (by kernel_rfl) (fun _ _ _ h => h) (Or.inl ⟨by rfl, ?_⟩) ?_ ?_; rotate_left; (focus (intro w'; go_simp; with_reducible rfl)); rotate_left; (focus (simp only [Act.put, qzA, qzB, qzC, i64_w, i32_w]; rfl))
    refine take_ (i := 14) (N := some 119) (v := ?_) (a' := ?_) (msk 31 15) rfl rfl (by kernel_rfl) (fun _ _ _ h => h) (Or.inl ⟨by rfl, ?_⟩) hHeld ?_ ?_; rotate_left; (focus (rintro w' ⟨s0, s1, s2, s3⟩; go_simp; with_reducible rfl)); rotate_left; (focus (simp only [Act.put, qzA, qzB, qzC, i64_w, i32_w]; rfl))
    refine pure_ (i := 15) (N := some 120) (v := ?_) (a' := ?_) (msk 31 16) rfl rfl (by kernel_rfl) (fun _ _ _ h => h) (Or.inl ⟨by rfl, ?_⟩) ?_ ?_; rotate_left; (focus (intro w'; go_simp; with_reducible rfl)); rotate_left; (focus (simp only [Act.put, qzA, qzB, qzC, i64_w, i32_w]; rfl))
    refine take_ (i := 16) (N := some 121) (v := ?_) (a' := ?_) (msk 31 17) rfl rfl (by kernel_rfl) (fun _ _ _ h => h) (Or.inl ⟨by rfl, ?_⟩) hHeld ?_ ?_; rotate_left; (focus (rintro w' ⟨s0, s1, s2, s3⟩; go_simp; with_reducible rfl)); rotate_left; (focus (simp only [Act.put, qzA, qzB, qzC, i64_w, i32_w]; rfl))
    refine pure_ (i := 17) (N := some 122) (v := ?_) (a' := ?_) (msk 31 18) rfl rfl (by kernel_rfl) (fun _ _ _ h => h) (Or.inl ⟨by rfl, ?_⟩) ?_ ?_; rotate_left; (focus (intro w'; go_simp; with_reducible rfl)); rotate_left; (focus (simp only [Act.put, qzA, qzB, qzC, i64_w, i32_w]; rfl))
    refine pure_ (i := 18) (N := some 123) (v := ?_) (a' := ?_) (msk 31 19) rfl rfl (by kernel_rfl) (fun _ _ _ h => h) (Or.inl ⟨by rfl, ?_⟩) ?_ ?_; rotate_left; (focus (intro w'; go_simp; with_reducible rfl)); rotate_left; (focus (simp only [Act.put, qzA, qzB, qzC, i64_w, i32_w]; rfl))
    refine pure_ (i := 19) (N := some 124) (v := ?_) (a' := ?_) (msk 31 20) rfl rfl (by kernel_rfl) (fun _ _ _ h => h) (Or.inl ⟨by rfl, ?_⟩) ?_ ?_; rotate_left; (focus (intro w'; go_simp; with_reducible rfl)); rotate_left; (focus (simp only [Act.put, qzA, qzB, qzC, i64_w, i32_w]; rfl))
    refine pure_ (i := 20) (N := some 125) (v := ?_) (a' := ?_) (msk 31 21) rfl rfl (by kernel_rfl) (fun _ _ _ h => h) (Or.inl ⟨by rfl, ?_⟩) ?_ ?_; rotate_left; (focus (intro w'; go_simp; with_reducible rfl)); rotate_left; (focus (simp only [Act.put, qzA, qzB, qzC, i64_w, i32_w]; rfl))
    refine pure_ (i := 21) (N := some 126) (v := ?_) (a' := ?_) (msk 31 22) rfl rfl (by kernel_rfl) (fun _ _ _ h => h) (Or.inl ⟨by rfl, ?_⟩) ?_ ?_; rotate_left; (focus (intro w'; go_simp; with_reducible rfl)); rotate_left; (focus (simp only [Act.put, qzA, qzB, qzC, i64_w, i32_w]; rfl))
    refine pure_ (i := 22) (N := some 127) (v := ?_) (a' := ?_) (msk 31 23) rfl rfl (by kernel_rfl) (fun _ _ _ h => h) (Or.inl ⟨by rfl, ?_⟩) ?_ ?_; rotate_left; (focus (intro w'; go_simp; with_reducible rfl)); rotate_left; (focus (simp only [Act.put, qzA, qzB, qzC, i64_w, i32_w]; rfl))
    refine pure_ (i := 23) (N := some 128) (v := ?_) (a' := ?_) (msk 31 24) rfl rfl (by kernel_rfl) (fun _ _ _ h => h) (Or.inl ⟨by rfl, ?_⟩) ?_ ?_; rotate_left; (focus (intro w'; go_simp; with_reducible rfl)); rotate_left; (focus (simp only [Act.put, qzA, qzB, qzC, i64_w, i32_w]; rfl))
    refine pure_ (i := 24) (N := some 129) (v := ?_) (a' := ?_) (msk 31 25) rfl rfl (by kernel_rfl) (fun _ _ _ h => h) (Or.inl ⟨by rfl, ?_⟩) ?_ ?_; rotate_left; (focus (intro w'; go_simp; with_reducible rfl)); rotate_left; (focus (simp only [Act.put, qzA, qzB, qzC, i64_w, i32_w]; rfl))
    refine take_ (i := 25) (N := some 130) (v := ?_) (a' := ?_) (msk 31 26) rfl rfl (by kernel_rfl) (fun _ _ _ h => h) (Or.inl ⟨by rfl, ?_⟩) hHeld ?_ ?_; rotate_left; (focus (rintro w' ⟨s0, s1, s2, s3⟩; go_simp; with_reducible rfl)); rotate_left; (focus (simp only [Act.put, qzA, qzB, qzC, i64_w, i32_w]; rfl))
    refine pure_ (i := 26) (N := some 131) (v := ?_) (a' := ?_) (msk 31 27) rfl rfl (by kernel_rfl) (fun _ _ _ h => h) (Or.inl ⟨by rfl, ?_⟩) ?_ ?_; rotate_left; (focus (intro w'; go_simp; with_reducible rfl)); rotate_left; (focus (simp only [Act.put, qzA, qzB, qzC, i64_w, i32_w]; rfl))
    refine pure_ (i := 27) (N := some 132) (v := ?_) (a' := ?_) (msk 31 28) rfl rfl (by kernel_rfl) (fun _ _ _ h => h) (Or.inl ⟨by rfl, ?_⟩) ?_ ?_; rotate_left; (focus (intro w'; go_simp; with_reducible rfl)); rotate_left; (focus (simp only [Act.put, qzA, qzB, qzC, i64_w, i32_w]; rfl))
    refine pure_ (i := 28) (N := some 133) (v := ?_) (a' := ?_) (msk 31 29) rfl rfl (by kernel_rfl) (fun _ _ _ h => h) (Or.inl ⟨by rfl, ?_⟩) ?_ ?_; rotate_left; (focus (intro w'; go_simp; with_reducible rfl)); rotate_left; (focus (simp only [Act.put, qzA, qzB, qzC, i64_w, i32_w]; rfl))
    refine pure_ (i := 29) (N := some 134) (v := ?_) (a' := ?_) (msk 31 30) rfl rfl (by kernel_rfl) (fun _ _ _ h => h) (Or.inl ⟨by rfl, ?_⟩) ?_ ?_; rotate_left; (focus (intro w'; go_simp; with_reducible rfl)); rotate_left; (focus (simp only [Act.put, qzA, qzB, qzC, i64_w, i32_w]; rfl))
    refine pure_ (i := 30) (N := some 15) (v := ?_) (a' := ?_) (msk 31 31) rfl rfl (by kernel_rfl) (fun _ _ _ h => h) (Or.inl ⟨by rfl, ?_⟩) ?_ ?_; rotate_left; (focus (intro w'; go_simp; with_reducible rfl)); rotate_left; (focus (simp only [Act.put, qzA, qzB, qzC, i64_w, i32_w]; rfl))
    refine done_ (by kernel_rfl) ?_
    clear e1 e2 e3 e6 e7 E1 E2 E3 E6 E7
    rw [E5.out, E4.out]
    go_wp2_with fail
    go_meet
    case rel => exact ⟨rfl, ⟨HIT.out.below (below_drew (Below.refl _ _))⟩⟩
   case rest =>
   clear E1 E2 E3 E4 E5 E6 E7 HIT BK18 HT13
   obtain ⟨rfl, HITD⟩ := hcut
   have hoxd : wc.cell? (ao.add k) = some (.int .i64 xn) := (HITD.out.hm.cell (World.block_lt_of_cell? wm _ HC.out.2.2.1)).trans HC.out.2.2.1
   have hgbd : wc.cell? ⟨gb, 1, none⟩ = some (.slice A0_1 l0_1.length c0_1) := (qaa HITD.out.b 1).trans rfl
   have HWX : qab (wrap64 ((xn : Int) + 1) = (xn : Int) + 1) := ⟨wrap_id (by omega) (by omega)⟩
   go_upto_region 17 with fail
   (try rw [HWX.out])
   clear hoxd hgbd HWX
   obtain ⟨hn, rfl⟩ := Int.eq_ofNat_of_zero_le h30
   obtain ⟨p0, hp0'⟩ : ∃ p, p = whL l4 0 := ⟨_, rfl⟩
   have hpb : 0 ≤ p0 ∧ p0 ≤ 100 := by rw [hp0']; exact whL_bd HHW.out 0
   have hNN := net_ok HHV.out
   have hLL := hNN.loops _ (rdT39_mem hx0 hx1)
   have hpe := part_eq (show 0 ≤ (qaj l0_0 (xn : Int)).f0.f0 by have := hLL.w0; omega) hLL.w1 hLL.w2 hpb.1 hpb.2
   obtain ⟨x0, y0, z0, u0, hx0p, hpl⟩ := in_time HHV.out HHW.out (xn : Int) hx0 hx1 hn hd3 p0 hpb.1 hpb.2
   obtain ⟨pw, hpw⟩ : ∃ x, x = partV (qaj l0_0 (xn : Int)).f0.f0 (qaj l0_0 (xn : Int)).f0.f1 p0 := ⟨_, rfl⟩
   rw [← hpw] at hpe hpl
   obtain ⟨e0, he0⟩ : ∃ x, x = truthL (qaj l0_0 (xn : Int)) l0_1 l4 hn := ⟨_, rfl⟩
   rw [← he0] at hpl
   have hnl : hn ≤ l0_1.length := by omega
   have HTRU : qab (∀ W, Below w.heap.size w W → Calls Try.prog 35 #[.agg #[.slice (some ad) l0_0.length c0_0, .slice A0_1 l0_1.length c0_1, .slice (some ad2) l0_2.length c0_2], .int .i64 xn, .int .i64 (hn : Int), .slice A4 l4.length c4] W fun e w' => ∃ v, e = .returned v ∧ Kd.R k44 44 w' W.heap.size (fun _ => True) v e0 ∧ Below W.heap.size W w') := ⟨fun W hW => taliklaw04_truth.calls 100 _ _ l0_0 _ _ l0_1 _ _ l0_2 xn _ _ _ l4 _ W (Kd.qal HR0.out hW) hc0_0 (Kd.qal HR1.out hW) hc0_1 (Kd.qal HR2.out hW) hc0_2 (Kd.qal HRL4.out hW) hc4 (by rw [he0]; exact truth_eq hNN HHW.out (xn : Int) hx0 hx1 hn hnl 100 (by omega))⟩
   have HPLY : qab (∀ tA tc W, Below w.heap.size w W → (∃ base ok, Kd.R k44 44 W base ok (.slice tA e0.length tc) e0) → Calls Try.prog 18 #[.agg #[.slice (some ad) l0_0.length c0_0, .slice A0_1 l0_1.length c0_1, .slice (some ad2) l0_2.length c0_2], .int .i64 xn, .int .i64 pw, .slice tA e0.length tc] W fun e w' => e = .returned (.tuple #[.agg #[.int .i64 x0, .int .i64 y0, .int .i64 z0, .int .i64 u0], .int .i64 0]) ∧ Below W.heap.size W w') := ⟨fun tA tc W hW ⟨base, ok, hr⟩ => pipe_Play.calls _ _ l0_0 _ _ l0_1 _ _ l0_2 xn pw tA tc e0 _ _ _ _ _ W (Kd.qal HR0.out hW) hc0_0 (Kd.qal HR1.out hW) hc0_1 (Kd.qal HR2.out hW) hc0_2 (Kd.R_reads' hr).2.2 (Kd.R_reads' hr).2.1 (by unfold pipe_Play.f; rw [hpl])⟩
   obtain ⟨f0, hf0⟩ : ∃ x, x = (qaj l0_0 (xn : Int)).f0.f0 := ⟨_, rfl⟩
   obtain ⟨f1, hf1⟩ : ∃ x, x = (qaj l0_0 (xn : Int)).f0.f1 := ⟨_, rfl⟩
   rw [← hf0] at HWA hpe
   rw [← hf1] at HWA hpe
   have HPA : qab (∀ W, Calls Try.prog 34 #[.agg #[.int .i64 f0, .int .i64 f1], .int .i64 p0] W fun e w' => e = .returned (.int .i64 pw) ∧ Below W.heap.size W w') := ⟨fun W => taliklaw04_part.calls f0 f1 p0 pw W hpe⟩
   have hl4n : 0 < l4.length := HHW.out.len.1
   have hl4p : (0 : Int) < l4.length := by omega
   obtain ⟨aw, rfl, hw0⟩ := Kd.at_int HRL4.out 0 (Int.le_refl _) hl4p
   have hw0' : w.cell? aw = some (.int .i64 p0) := by
    rw [show rd l4 0 = p0 from by rw [hp0']; unfold whL; rw [Nat.zero_mod]; rfl] at hw0
    simpa [Addr.add] using hw0
   have HW0 := qab.mk hw0'
   have HT : qab (∀ W, ITI w wm gb #[.slice (some ad) l0_0.length c0_0, .slice A0_1 l0_1.length c0_1, .slice (some ad2) l0_2.length c0_2] W → (W.cell? ⟨gb, 0, none⟩ = some (.slice (some ad) l0_0.length c0_0) ∧ W.cell? ⟨gb, 1, none⟩ = some (.slice A0_1 l0_1.length c0_1) ∧ W.cell? ⟨gb, 2, none⟩ = some (.slice (some ad2) l0_2.length c0_2) ∧ W.cell? (ao.add k) = some (.int .i64 xn) ∧ W.cell? (ad.add (xn * 12)) = some (.int .i64 f0) ∧ W.cell? ⟨(ad.add (xn * 12)).block, (ad.add (xn * 12)).off + 1, none⟩ = some (.int .i64 f1) ∧ W.cell? aw = some (.int .i64 p0) ∧ qab (ITI w wm gb #[.slice (some ad) l0_0.length c0_0, .slice A0_1 l0_1.length c0_1, .slice (some ad2) l0_2.length c0_2] W))) := ⟨fun W h => ⟨qaa h.b 0, qaa h.b 1, qaa h.b 2, (h.hm.cell (World.block_lt_of_cell? wm _ HC.out.2.2.1)).trans HC.out.2.2.1, (h.hb.cell (World.block_lt_of_cell? w _ HWA.out.1)).trans HWA.out.1, (h.hb.cell (World.block_lt_of_cell? w _ HWA.out.2)).trans HWA.out.2, (h.hb.cell (World.block_lt_of_cell? w _ HW0.out)).trans HW0.out, ⟨h⟩⟩⟩
   have hd5 : decide (x0 ≤ 0) = false := decide_eq_false (by omega)
   clear hw0 hw0' hf0 hf1 hpe hpl hpw he0 hp0' hpb hNN hLL hd3 hd4 hx0p
   go_cut [19, 20] from 78 to 181 (fun s19 s20 w' => ∃ g19, s19 = .pointer (some ⟨g19, 0, none⟩) ∧ s20 = .int .i64 0 ∧ qab (ITI w wm gb #[.slice (some ad) l0_0.length c0_0, .slice A0_1 l0_1.length c0_1, .slice (some ad2) l0_2.length c0_2] w') ∧ qab (w'.heap[g19]? = some (.cells #[.int .i64 x0, .int .i64 y0, .int .i64 z0, .int .i64 u0] 31 (0, 0))))
   case first =>
    refine start_ (n := 33) (S := (fun w' => (w'.cell? ⟨gb, 0, none⟩ = some (.slice (some ad) l0_0.length c0_0) ∧ w'.cell? ⟨gb, 1, none⟩ = some (.slice A0_1 l0_1.length c0_1) ∧ w'.cell? ⟨gb, 2, none⟩ = some (.slice (some ad2) l0_2.length c0_2) ∧ w'.cell? (ao.add k) = some (.int .i64 xn) ∧ w'.cell? (ad.add (xn * 12)) = some (.int .i64 f0) ∧ w'.cell? ⟨(ad.add (xn * 12)).block, (ad.add (xn * 12)).off + 1, none⟩ = some (.int .i64 f1) ∧ w'.cell? aw = some (.int .i64 p0) ∧ qab (ITI w wm gb #[.slice (some ad) l0_0.length c0_0, .slice A0_1 l0_1.length c0_1, .slice (some ad2) l0_2.length c0_2] w')))) (ds := [31]) (msk 33 0) (by kernel_rfl) rfl rfl (HT.out _ (ITI.below HITD.out (below_drew (Below.refl _ _)))) (fun hHeld => ?_)
    have n_S := qab.mk hHeld; generalize wc.drew = wk at hHeld n_S ⊢; clear n_S
    refine take_ (i := 0) (N := some 146) (v := ?_) (a' := ?_) (msk 33 1) rfl rfl (by kernel_rfl) (fun _ _ _ h => h) (Or.inl ⟨by rfl, ?_⟩) hHeld ?_ ?_; rotate_left; (focus (rintro w' ⟨s0, s1, s2, s3, s4, s5, s6, s7⟩; go_simp; with_reducible rfl)); rotate_left; (focus (simp only [Act.put, qzA, qzB, qzC, i64_w, i32_w]; rfl))
    refine pure_ (i := 1) (N := some 147) (v := ?_) (a' := ?_) (msk 33 2) rfl rfl (by kernel_rfl) (fun _ _ _ h => h) (Or.inl ⟨by rfl, ?_⟩) ?_ ?_; rotate_left; (focus (intro w'; go_simp; with_reducible rfl)); rotate_left; (focus (simp only [Act.put, qzA, qzB, qzC, i64_w, i32_w]; rfl))
    refine pure_ (i := 2) (N := some 148) (v := ?_) (a' := ?_) (msk 33 3) rfl rfl (by kernel_rfl) (fun _ _ _ h => h) (Or.inl ⟨by rfl, ?_⟩) ?_ ?_; rotate_left; (focus (intro w'; go_simp; with_reducible rfl)); rotate_left; (focus (simp only [Act.put, qzA, qzB, qzC, i64_w, i32_w]; rfl))
    refine pure_ (i := 3) (N := some 149) (v := ?_) (a' := ?_) (msk 33 4) rfl rfl (by kernel_rfl) (fun _ _ _ h => h) (Or.inl ⟨by rfl, ?_⟩) ?_ ?_; rotate_left; (focus (intro w'; go_simp; with_reducible rfl)); rotate_left; (focus (simp only [Act.put, qzA, qzB, qzC, i64_w, i32_w]; rfl))
    refine take_ (i := 4) (N := some 150) (v := ?_) (a' := ?_) (msk 33 5) rfl rfl (by kernel_rfl) (fun _ _ _ h => h) (Or.inl ⟨by rfl, ?_⟩) hHeld ?_ ?_; rotate_left; (focus (rintro w' ⟨s0, s1, s2, s3, s4, s5, s6, s7⟩; go_simp; with_reducible rfl)); rotate_left; (focus (simp only [Act.put, qzA, qzB, qzC, i64_w, i32_w]; rfl))
    refine pure_ (i := 5) (N := some 151) (v := ?_) (a' := ?_) (msk 33 6) rfl rfl (by kernel_rfl) (fun _ _ _ h => h) (Or.inl ⟨by rfl, ?_⟩) ?_ ?_; rotate_left; (focus (intro w'; go_simp; with_reducible rfl)); rotate_left; (focus (simp only [Act.put, qzA, qzB, qzC, i64_w, i32_w]; rfl))
    refine take_ (i := 6) (N := some 152) (v := ?_) (a' := ?_) (msk 33 7) rfl rfl (by kernel_rfl) (fun _ _ _ h => h) (Or.inl ⟨by rfl, ?_⟩) hHeld ?_ ?_; rotate_left; (focus (rintro w' ⟨s0, s1, s2, s3, s4, s5, s6, s7⟩; go_simp; with_reducible rfl)); rotate_left; (focus (simp only [Act.put, qzA, qzB, qzC, i64_w, i32_w]; rfl))
    refine pure_ (i := 7) (N := some 153) (v := ?_) (a' := ?_) (msk 33 8) rfl rfl (by kernel_rfl) (fun _ _ _ h => h) (Or.inl ⟨by rfl, ?_⟩) ?_ ?_; rotate_left; (focus (intro w'; go_simp; with_reducible rfl)); rotate_left; (focus (simp only [Act.put, qzA, qzB, qzC, i64_w, i32_w]; rfl))
    refine pure_ (i := 8) (N := some 154) (v := ?_) (a' := ?_) (msk 33 9) rfl rfl (by kernel_rfl) (fun _ _ _ h => h) (Or.inl ⟨by rfl, ?_⟩) ?_ ?_; rotate_left; (focus (intro w'; go_simp; with_reducible rfl)); rotate_left; (focus (simp only [Act.put, qzA, qzB, qzC, i64_w, i32_w]; rfl))
    refine pure_ (i := 9) (N := some 155) (v := ?_) (a' := ?_) (msk 33 10) rfl rfl (by kernel_rfl) (fun _ _ _ h => h) (Or.inl ⟨by rfl, ?_⟩) ?_ ?_; rotate_left; (focus (intro w'; go_simp; with_reducible rfl)); rotate_left; (focus (simp only [Act.put, qzA, qzB, qzC, i64_w, i32_w]; rfl))
    refine take_ (i := 10) (N := some 156) (v := ?_) (a' := ?_) (msk 33 11) rfl rfl (by kernel_rfl) (fun _ _ _ h => h) (Or.inl ⟨by rfl, ?_⟩) hHeld ?_ ?_; rotate_left; (focus (rintro w' ⟨s0, s1, s2, s3, s4, s5, s6, s7⟩; go_simp; with_reducible rfl)); rotate_left; (focus (simp only [Act.put, qzA, qzB, qzC, i64_w, i32_w]; rfl))
    refine pure_ (i := 11) (N := some 157) (v := ?_) (a' := ?_) (msk 33 12) rfl rfl (by kernel_rfl) (fun _ _ _ h => h) (Or.inl ⟨by rfl, ?_⟩) ?_ ?_; rotate_left; (focus (intro w'; go_simp; with_reducible rfl)); rotate_left; (focus (simp only [Act.put, qzA, qzB, qzC, i64_w, i32_w]; rfl))
    refine pure_ (i := 12) (N := some 158) (v := ?_) (a' := ?_) (msk 33 13) rfl rfl (by kernel_rfl) (fun _ _ _ h => h) (Or.inl ⟨by rfl, ?_⟩) ?_ ?_; rotate_left; (focus (intro w'; go_simp; with_reducible rfl)); rotate_left; (focus (simp only [Act.put, qzA, qzB, qzC, i64_w, i32_w]; rfl))
    refine take_ (i := 13) (N := some 159) (v := ?_) (a' := ?_) (msk 33 14) rfl rfl (by kernel_rfl) (fun _ _ _ h => h) (Or.inl ⟨by rfl, ?_⟩) hHeld ?_ ?_; rotate_left; (focus (rintro w' ⟨s0, s1, s2, s3, s4, s5, s6, s7⟩; go_simp; with_reducible rfl)); rotate_left; (focus (simp only [Act.put, qzA, qzB, qzC, i64_w, i32_w]; rfl))
    refine pure_ (i := 14) (N := some 160) (v := ?_) (a' := ?_) (msk 33 15) rfl rfl (by kernel_rfl) (fun _ _ _ h => h) (Or.inl ⟨by rfl, ?_⟩) ?_ ?_; rotate_left; (focus (intro w'; go_simp; with_reducible rfl)); rotate_left; (focus (simp only [Act.put, qzA, qzB, qzC, i64_w, i32_w]; rfl))
    refine pure_ (i := 15) (N := some 161) (v := ?_) (a' := ?_) (msk 33 16) rfl rfl (by kernel_rfl) (fun _ _ _ h => h) (Or.inl ⟨by rfl, ?_⟩) ?_ ?_; rotate_left; (focus (intro w'; go_simp; with_reducible rfl)); rotate_left; (focus (simp only [Act.put, qzA, qzB, qzC, i64_w, i32_w]; rfl))
    refine take_ (i := 16) (N := some 162) (v := ?_) (a' := ?_) (msk 33 17) rfl rfl (by kernel_rfl) (fun _ _ _ h => h) (Or.inl ⟨by rfl, ?_⟩) hHeld ?_ ?_; rotate_left; (focus (rintro w' ⟨s0, s1, s2, s3, s4, s5, s6, s7⟩; go_simp; with_reducible rfl)); rotate_left; (focus (simp only [Act.put, qzA, qzB, qzC, i64_w, i32_w]; rfl))
    refine take_ (i := 18) (N := some 164) (v := ?_) (a' := ?_) #[true, true, true, true, true, true, true, true, true, true, true, true, true, true, true, true, true, false, true, false, false, false, false, false, false, false, false, false, false, false, false, false, false] rfl rfl (by kernel_rfl) (fun _ _ _ h => h) (Or.inl ⟨by rfl, ?_⟩) hHeld ?_ ?_; rotate_left; (focus (rintro w' ⟨s0, s1, s2, s3, s4, s5, s6, s7⟩; go_simp; with_reducible rfl)); rotate_left; (focus (simp only [Act.put, qzA, qzB, qzC, i64_w, i32_w]; rfl))
    refine pure_ (i := 19) (N := some 165) (v := ?_) (a' := ?_) #[true, true, true, true, true, true, true, true, true, true, true, true, true, true, true, true, true, false, true, true, false, false, false, false, false, false, false, false, false, false, false, false, false] rfl rfl (by kernel_rfl) (fun _ _ _ h => h) (Or.inl ⟨by rfl, ?_⟩) ?_ ?_; rotate_left; (focus (intro w'; go_simp; with_reducible rfl)); rotate_left; (focus (simp only [Act.put, qzA, qzB, qzC, i64_w, i32_w]; rfl))
    refine pure_ (i := 20) (N := some 166) (v := ?_) (a' := ?_) #[true, true, true, true, true, true, true, true, true, true, true, true, true, true, true, true, true, false, true, true, true, false, false, false, false, false, false, false, false, false, false, false, false] rfl rfl (by kernel_rfl) (fun _ _ _ h => h) (Or.inl ⟨by rfl, ?_⟩) ?_ ?_; rotate_left; (focus (intro w'; go_simp; with_reducible rfl)); rotate_left; (focus (simp only [Act.put, qzA, qzB, qzC, i64_w, i32_w]; rfl))
    refine pure_ (i := 21) (N := some 167) (v := ?_) (a' := ?_) #[true, true, true, true, true, true, true, true, true, true, true, true, true, true, true, true, true, false, true, true, true, true, false, false, false, false, false, false, false, false, false, false, false] rfl rfl (by kernel_rfl) (fun _ _ _ h => h) (Or.inl ⟨by rfl, ?_⟩) ?_ ?_; rotate_left; (focus (intro w'; go_simp; with_reducible rfl)); rotate_left; (focus (simp only [Act.put, qzA, qzB, qzC, i64_w, i32_w]; rfl))
    refine take_ (i := 22) (N := some 168) (v := ?_) (a' := ?_) #[true, true, true, true, true, true, true, true, true, true, true, true, true, true, true, true, true, false, true, true, true, true, true, false, false, false, false, false, false, false, false, false, false] rfl rfl (by kernel_rfl) (fun _ _ _ h => h) (Or.inl ⟨by rfl, ?_⟩) hHeld ?_ ?_; rotate_left; (focus (rintro w' ⟨s0, s1, s2, s3, s4, s5, s6, s7⟩; go_simp; with_reducible rfl)); rotate_left; (focus (simp only [Act.put, qzA, qzB, qzC, i64_w, i32_w]; rfl))
    refine pure_ (i := 23) (N := some 169) (v := ?_) (a' := ?_) #[true, true, true, true, true, true, true, true, true, true, true, true, true, true, true, true, true, false, true, true, true, true, true, true, false, false, false, false, false, false, false, false, false] rfl rfl (by kernel_rfl) (fun _ _ _ h => h) (Or.inl ⟨by rfl, ?_⟩) ?_ ?_; rotate_left; (focus (intro w'; go_simp; with_reducible rfl)); rotate_left; (focus (simp only [Act.put, qzA, qzB, qzC, i64_w, i32_w]; rfl))
    refine pure_ (i := 24) (N := some 170) (v := ?_) (a' := ?_) #[true, true, true, true, true, true, true, true, true, true, true, true, true, true, true, true, true, false, true, true, true, true, true, true, true, false, false, false, false, false, false, false, false] rfl rfl (by kernel_rfl) (fun _ _ _ h => h) (Or.inl ⟨by rfl, ?_⟩) ?_ ?_; rotate_left; (focus (intro w'; go_simp; with_reducible rfl)); rotate_left; (focus (simp only [Act.put, qzA, qzB, qzC, i64_w, i32_w]; rfl))
    refine join_ (σ := Option Addr × Nat × Nat) 2 (msk 33 31) (fun s_ => [(163, .int .i64 pw), (171, .slice s_.1 e0.length s_.2.1), (172, .tuple #[.agg #[.int .i64 x0, .int .i64 y0, .int .i64 z0, .int .i64 u0], .int .i64 0]), (145, .tuple #[.agg #[.int .i64 x0, .int .i64 y0, .int .i64 z0, .int .i64 u0], .int .i64 0]), (173, .agg #[.int .i64 x0, .int .i64 y0, .int .i64 z0, .int .i64 u0]), (174, .int .i64 0), (19, .pointer (some ⟨s_.2.2, 0, none⟩))]) (fun s_ w' => (w'.cell? ⟨gb, 0, none⟩ = some (.slice (some ad) l0_0.length c0_0) ∧ w'.cell? ⟨gb, 1, none⟩ = some (.slice A0_1 l0_1.length c0_1) ∧ w'.cell? ⟨gb, 2, none⟩ = some (.slice (some ad2) l0_2.length c0_2) ∧ w'.cell? (ao.add k) = some (.int .i64 xn) ∧ w'.cell? (ad.add (xn * 12)) = some (.int .i64 f0) ∧ w'.cell? ⟨(ad.add (xn * 12)).block, (ad.add (xn * 12)).off + 1, none⟩ = some (.int .i64 f1) ∧ w'.cell? aw = some (.int .i64 p0) ∧ qab (ITI w wm gb #[.slice (some ad) l0_0.length c0_0, .slice A0_1 l0_1.length c0_1, .slice (some ad2) l0_2.length c0_2] w')) ∧ w'.heap[s_.2.2]? = some (.cells #[.int .i64 0, .int .i64 0, .int .i64 0, .int .i64 0] 31 (0, 0)) ∧ wm.heap.size ≤ s_.2.2 ∧ w.heap.size ≤ s_.2.2 ∧ gb ≠ s_.2.2) ?_ ?_
    rotate_left
    ·
     intro hCont
     refine two_ (i := 17) (j := 30) (Ni := some 163) (Nj := some 19) (msk 33 25) #[true, true, true, true, true, true, true, true, true, true, true, true, true, true, true, true, true, false, true, true, true, true, true, true, true, false, false, false, false, false, true, false, false] rfl rfl rfl rfl (by kernel_rfl) (by decide) (by decide) (fun K hK => ?_) (fun K hK => ?_)
     ·
      refine goes_ Try.func34 (by kernel_rfl) rfl #[.agg #[.int .i64 f0, .int .i64 f1], .int .i64 p0] (by rfl) rfl rfl (by (try simp only [List.map_toArray, List.map_cons, List.map_nil]); first | done | rfl | (simp only [List.length_drop, List.length_take]; rfl)) ?_
      refine (HPA.out _).mono ?_; rintro e w4 ⟨rfl, hb⟩; have HP4 := qab.mk (HT.out w4 (ITI.below hHeld.2.2.2.2.2.2.2.out hb)); clear hb; refine ⟨_, rfl, ?_⟩; refine hK.out _ _ HP4.out (fun hHeld => ?_); clear hK K; refine norm_ (a' := ?_) ?_ ?_; rotate_left; (focus (show Act.put _ (some 163) _ = _; simp only [Act.put, qzA, qzB, qzC, i64_w, i32_w]; rfl))
      refine two_ (i := 25) (j := 30) (Ni := some 171) (Nj := some 19) (msk 33 26) #[true, true, true, true, true, true, true, true, true, true, true, true, true, true, true, true, true, true, true, true, true, true, true, true, true, false, false, false, false, false, true, false, false] rfl rfl rfl rfl (by kernel_rfl) (by decide) (by decide) (fun K hK => ?_) (fun K hK => ?_)
      ·
       refine goes_ Try.func35 (by kernel_rfl) rfl #[.agg #[.slice (some ad) l0_0.length c0_0, .slice A0_1 l0_1.length c0_1, .slice (some ad2) l0_2.length c0_2], .int .i64 xn, .int .i64 (hn : Int), .slice (some aw) l4.length c4] (by rfl) rfl rfl (by (try simp only [List.map_toArray, List.map_cons, List.map_nil]); first | done | rfl | (simp only [List.length_drop, List.length_take]; rfl)) ?_
       refine (HTRU.out _ hHeld.2.2.2.2.2.2.2.out.hb).mono ?_; rintro e w5 ⟨v5, rfl, ho, hb⟩; obtain ⟨tA, tc, rfl⟩ := Kd.R_slice ho; have HP5 := qab.mk (HT.out w5 (ITI.below hHeld.2.2.2.2.2.2.2.out hb)); have HRT := qab.mk ho; clear ho hb; refine ⟨_, rfl, ?_⟩; refine hK.out _ _ HP5.out (fun hHeld => ?_); clear hK K; refine norm_ (a' := ?_) ?_ ?_; rotate_left; (focus (show Act.put _ (some 171) _ = _; simp only [Act.put, qzA, qzB, qzC, i64_w, i32_w]; rfl))
       refine two_ (i := 26) (j := 30) (Ni := some 172) (Nj := some 19) (msk 33 27) #[true, true, true, true, true, true, true, true, true, true, true, true, true, true, true, true, true, true, true, true, true, true, true, true, true, true, false, false, false, false, true, false, false] rfl rfl rfl rfl (by kernel_rfl) (by decide) (by decide) (fun K hK => ?_) (fun K hK => ?_)
       ·
        refine goes_ Try.func18 (by kernel_rfl) rfl #[.agg #[.slice (some ad) l0_0.length c0_0, .slice A0_1 l0_1.length c0_1, .slice (some ad2) l0_2.length c0_2], .int .i64 xn, .int .i64 pw, .slice tA e0.length tc] (by rfl) rfl rfl (by (try simp only [List.map_toArray, List.map_cons, List.map_nil]); first | done | rfl | (simp only [List.length_drop, List.length_take]; rfl)) ?_
        refine (HPLY.out tA tc _ hHeld.2.2.2.2.2.2.2.out.hb (by first | exact ⟨_, _, HRT.out⟩ | exact ⟨_, _, HRT2.out⟩)).mono ?_; rintro e w6 ⟨rfl, hb⟩; have HP6 := qab.mk (HT.out w6 (ITI.below hHeld.2.2.2.2.2.2.2.out hb)); clear hb; refine ⟨_, rfl, ?_⟩; refine hK.out _ _ HP6.out (fun hHeld => ?_); clear hK K; refine norm_ (a' := ?_) ?_ ?_; rotate_left; (focus (show Act.put _ (some 172) _ = _; simp only [Act.put, qzA, qzB, qzC, i64_w, i32_w]; rfl))
        refine pure_ (i := 27) (N := some 145) (v := ?_) (a' := ?_) (msk 33 28) rfl rfl (by kernel_rfl) (fun _ _ _ h => h) (Or.inl ⟨by rfl, ?_⟩) ?_ ?_; rotate_left; (focus (intro w'; go_simp; with_reducible rfl)); rotate_left; (focus (simp only [Act.put, qzA, qzB, qzC, i64_w, i32_w]; rfl))
        refine pure_ (i := 28) (N := some 173) (v := ?_) (a' := ?_) (msk 33 29) rfl rfl (by kernel_rfl) (fun _ _ _ h => h) (Or.inl ⟨by rfl, ?_⟩) ?_ ?_; rotate_left; (focus (intro w'; go_simp; with_reducible rfl)); rotate_left; (focus (simp only [Act.put, qzA, qzB, qzC, i64_w, i32_w]; rfl))
        refine pure_ (i := 29) (N := some 174) (v := ?_) (a' := ?_) (msk 33 30) rfl rfl (by kernel_rfl) (fun _ _ _ h => h) (Or.inl ⟨by rfl, ?_⟩) ?_ ?_; rotate_left; (focus (intro w'; go_simp; with_reducible rfl)); rotate_left; (focus (simp only [Act.put, qzA, qzB, qzC, i64_w, i32_w]; rfl))
        refine one_ (i := 30) (N := some 19) (msk 33 31) rfl rfl (by kernel_rfl) (by decide) (fun K hK => ?_)
        refine box_step ?hg (N := 19) ?hd (cs := #[.int .i64 0, .int .i64 0, .int .i64 0, .int .i64 0]) (t := 31) ?hr ?_; (case hd => rfl); (case hg => rfl); (case hr => first | (go_simp; done) | (go_simp; rfl)); intro ga hg_ wb BA hb; (try (have HRT2 := qab.mk (Kd.R_below HRT.out hb))); have GA : wm.heap.size ≤ ga := (by rw [hg_]; exact hHeld.2.2.2.2.2.2.2.out.hm.size); have GB2 : w.heap.size ≤ ga := (by rw [hg_]; exact hHeld.2.2.2.2.2.2.2.out.hb.size); have NA : gb ≠ ga := (by rw [hg_]; exact Nat.ne_of_lt (blk_lt hHeld.2.2.2.2.2.2.2.out.b)); clear hg_; refine hK.out _ _ (HT.out wb (ITI.below hHeld.2.2.2.2.2.2.2.out hb)) (fun hHeld => ?_); clear hK K hb; refine norm_ (a' := ?_) ?_ ?_; rotate_left; (focus (show Act.put _ (some 19) _ = _; simp only [Act.put, qzA, qzB, qzC, i64_w, i32_w]; rfl))
        exact norm_ (by simp only [putAll, Act.put, qzA, qzB, qzC]) (hCont (tA, tc, ga) _ ⟨hHeld, BA, GA, GB2, NA⟩)
       ·
        refine box_step ?hg (N := 19) ?hd (cs := #[.int .i64 0, .int .i64 0, .int .i64 0, .int .i64 0]) (t := 31) ?hr ?_; (case hd => rfl); (case hg => rfl); (case hr => first | (go_simp; done) | (go_simp; rfl)); intro ga hg_ wb BA hb; (try (have HRT2 := qab.mk (Kd.R_below HRT.out hb))); have GA : wm.heap.size ≤ ga := (by rw [hg_]; exact hHeld.2.2.2.2.2.2.2.out.hm.size); have GB2 : w.heap.size ≤ ga := (by rw [hg_]; exact hHeld.2.2.2.2.2.2.2.out.hb.size); have NA : gb ≠ ga := (by rw [hg_]; exact Nat.ne_of_lt (blk_lt hHeld.2.2.2.2.2.2.2.out.b)); clear hg_; refine hK.out _ _ (HT.out wb (ITI.below hHeld.2.2.2.2.2.2.2.out hb)) (fun hHeld => ?_); clear hK K hb; refine norm_ (a' := ?_) ?_ ?_; rotate_left; (focus (show Act.put _ (some 19) _ = _; simp only [Act.put, qzA, qzB, qzC, i64_w, i32_w]; rfl))
        refine one_ (i := 26) (N := some 172) #[true, true, true, true, true, true, true, true, true, true, true, true, true, true, true, true, true, true, true, true, true, true, true, true, true, true, true, false, false, false, true, false, false] rfl rfl (by kernel_rfl) (by decide) (fun K hK => ?_)
        refine goes_ Try.func18 (by kernel_rfl) rfl #[.agg #[.slice (some ad) l0_0.length c0_0, .slice A0_1 l0_1.length c0_1, .slice (some ad2) l0_2.length c0_2], .int .i64 xn, .int .i64 pw, .slice tA e0.length tc] (by rfl) rfl rfl (by (try simp only [List.map_toArray, List.map_cons, List.map_nil]); first | done | rfl | (simp only [List.length_drop, List.length_take]; rfl)) ?_
        refine (HPLY.out tA tc _ hHeld.2.2.2.2.2.2.2.out.hb (by first | exact ⟨_, _, HRT.out⟩ | exact ⟨_, _, HRT2.out⟩)).mono ?_; rintro e w6 ⟨rfl, hb⟩; replace BA := qag BA hb; have HP6 := qab.mk (HT.out w6 (ITI.below hHeld.2.2.2.2.2.2.2.out hb)); clear hb; refine ⟨_, rfl, ?_⟩; refine hK.out _ _ HP6.out (fun hHeld => ?_); clear hK K; refine norm_ (a' := ?_) ?_ ?_; rotate_left; (focus (show Act.put _ (some 172) _ = _; simp only [Act.put, qzA, qzB, qzC, i64_w, i32_w]; rfl))
        refine pure_ (i := 27) (N := some 145) (v := ?_) (a' := ?_) #[true, true, true, true, true, true, true, true, true, true, true, true, true, true, true, true, true, true, true, true, true, true, true, true, true, true, true, true, false, false, true, false, false] rfl rfl (by kernel_rfl) (fun _ _ _ h => h) (Or.inl ⟨by rfl, ?_⟩) ?_ ?_; rotate_left; (focus (intro w'; go_simp; with_reducible rfl)); rotate_left; (focus (simp only [Act.put, qzA, qzB, qzC, i64_w, i32_w]; rfl))
        refine pure_ (i := 28) (N := some 173) (v := ?_) (a' := ?_) #[true, true, true, true, true, true, true, true, true, true, true, true, true, true, true, true, true, true, true, true, true, true, true, true, true, true, true, true, true, false, true, false, false] rfl rfl (by kernel_rfl) (fun _ _ _ h => h) (Or.inl ⟨by rfl, ?_⟩) ?_ ?_; rotate_left; (focus (intro w'; go_simp; with_reducible rfl)); rotate_left; (focus (simp only [Act.put, qzA, qzB, qzC, i64_w, i32_w]; rfl))
        refine pure_ (i := 29) (N := some 174) (v := ?_) (a' := ?_) (msk 33 31) rfl rfl (by kernel_rfl) (fun _ _ _ h => h) (Or.inl ⟨by rfl, ?_⟩) ?_ ?_; rotate_left; (focus (intro w'; go_simp; with_reducible rfl)); rotate_left; (focus (simp only [Act.put, qzA, qzB, qzC, i64_w, i32_w]; rfl))
        exact norm_ (by simp only [putAll, Act.put, qzA, qzB, qzC]) (hCont (tA, tc, ga) _ ⟨hHeld, BA, GA, GB2, NA⟩)
      ·
       refine box_step ?hg (N := 19) ?hd (cs := #[.int .i64 0, .int .i64 0, .int .i64 0, .int .i64 0]) (t := 31) ?hr ?_; (case hd => rfl); (case hg => rfl); (case hr => first | (go_simp; done) | (go_simp; rfl)); intro ga hg_ wb BA hb; (try (have HRT2 := qab.mk (Kd.R_below HRT.out hb))); have GA : wm.heap.size ≤ ga := (by rw [hg_]; exact hHeld.2.2.2.2.2.2.2.out.hm.size); have GB2 : w.heap.size ≤ ga := (by rw [hg_]; exact hHeld.2.2.2.2.2.2.2.out.hb.size); have NA : gb ≠ ga := (by rw [hg_]; exact Nat.ne_of_lt (blk_lt hHeld.2.2.2.2.2.2.2.out.b)); clear hg_; refine hK.out _ _ (HT.out wb (ITI.below hHeld.2.2.2.2.2.2.2.out hb)) (fun hHeld => ?_); clear hK K hb; refine norm_ (a' := ?_) ?_ ?_; rotate_left; (focus (show Act.put _ (some 19) _ = _; simp only [Act.put, qzA, qzB, qzC, i64_w, i32_w]; rfl))
       refine one_ (i := 25) (N := some 171) #[true, true, true, true, true, true, true, true, true, true, true, true, true, true, true, true, true, true, true, true, true, true, true, true, true, true, false, false, false, false, true, false, false] rfl rfl (by kernel_rfl) (by decide) (fun K hK => ?_)
       refine goes_ Try.func35 (by kernel_rfl) rfl #[.agg #[.slice (some ad) l0_0.length c0_0, .slice A0_1 l0_1.length c0_1, .slice (some ad2) l0_2.length c0_2], .int .i64 xn, .int .i64 (hn : Int), .slice (some aw) l4.length c4] (by rfl) rfl rfl (by (try simp only [List.map_toArray, List.map_cons, List.map_nil]); first | done | rfl | (simp only [List.length_drop, List.length_take]; rfl)) ?_
       refine (HTRU.out _ hHeld.2.2.2.2.2.2.2.out.hb).mono ?_; rintro e w5 ⟨v5, rfl, ho, hb⟩; replace BA := qag BA hb; obtain ⟨tA, tc, rfl⟩ := Kd.R_slice ho; have HP5 := qab.mk (HT.out w5 (ITI.below hHeld.2.2.2.2.2.2.2.out hb)); have HRT := qab.mk ho; clear ho hb; refine ⟨_, rfl, ?_⟩; refine hK.out _ _ HP5.out (fun hHeld => ?_); clear hK K; refine norm_ (a' := ?_) ?_ ?_; rotate_left; (focus (show Act.put _ (some 171) _ = _; simp only [Act.put, qzA, qzB, qzC, i64_w, i32_w]; rfl))
       refine one_ (i := 26) (N := some 172) #[true, true, true, true, true, true, true, true, true, true, true, true, true, true, true, true, true, true, true, true, true, true, true, true, true, true, true, false, false, false, true, false, false] rfl rfl (by kernel_rfl) (by decide) (fun K hK => ?_)
       refine goes_ Try.func18 (by kernel_rfl) rfl #[.agg #[.slice (some ad) l0_0.length c0_0, .slice A0_1 l0_1.length c0_1, .slice (some ad2) l0_2.length c0_2], .int .i64 xn, .int .i64 pw, .slice tA e0.length tc] (by rfl) rfl rfl (by (try simp only [List.map_toArray, List.map_cons, List.map_nil]); first | done | rfl | (simp only [List.length_drop, List.length_take]; rfl)) ?_
       refine (HPLY.out tA tc _ hHeld.2.2.2.2.2.2.2.out.hb (by first | exact ⟨_, _, HRT.out⟩ | exact ⟨_, _, HRT2.out⟩)).mono ?_; rintro e w6 ⟨rfl, hb⟩; replace BA := qag BA hb; have HP6 := qab.mk (HT.out w6 (ITI.below hHeld.2.2.2.2.2.2.2.out hb)); clear hb; refine ⟨_, rfl, ?_⟩; refine hK.out _ _ HP6.out (fun hHeld => ?_); clear hK K; refine norm_ (a' := ?_) ?_ ?_; rotate_left; (focus (show Act.put _ (some 172) _ = _; simp only [Act.put, qzA, qzB, qzC, i64_w, i32_w]; rfl))
       refine pure_ (i := 27) (N := some 145) (v := ?_) (a' := ?_) #[true, true, true, true, true, true, true, true, true, true, true, true, true, true, true, true, true, true, true, true, true, true, true, true, true, true, true, true, false, false, true, false, false] rfl rfl (by kernel_rfl) (fun _ _ _ h => h) (Or.inl ⟨by rfl, ?_⟩) ?_ ?_; rotate_left; (focus (intro w'; go_simp; with_reducible rfl)); rotate_left; (focus (simp only [Act.put, qzA, qzB, qzC, i64_w, i32_w]; rfl))
       refine pure_ (i := 28) (N := some 173) (v := ?_) (a' := ?_) #[true, true, true, true, true, true, true, true, true, true, true, true, true, true, true, true, true, true, true, true, true, true, true, true, true, true, true, true, true, false, true, false, false] rfl rfl (by kernel_rfl) (fun _ _ _ h => h) (Or.inl ⟨by rfl, ?_⟩) ?_ ?_; rotate_left; (focus (intro w'; go_simp; with_reducible rfl)); rotate_left; (focus (simp only [Act.put, qzA, qzB, qzC, i64_w, i32_w]; rfl))
       refine pure_ (i := 29) (N := some 174) (v := ?_) (a' := ?_) (msk 33 31) rfl rfl (by kernel_rfl) (fun _ _ _ h => h) (Or.inl ⟨by rfl, ?_⟩) ?_ ?_; rotate_left; (focus (intro w'; go_simp; with_reducible rfl)); rotate_left; (focus (simp only [Act.put, qzA, qzB, qzC, i64_w, i32_w]; rfl))
       exact norm_ (by simp only [putAll, Act.put, qzA, qzB, qzC]) (hCont (tA, tc, ga) _ ⟨hHeld, BA, GA, GB2, NA⟩)
     ·
      refine box_step ?hg (N := 19) ?hd (cs := #[.int .i64 0, .int .i64 0, .int .i64 0, .int .i64 0]) (t := 31) ?hr ?_; (case hd => rfl); (case hg => rfl); (case hr => first | (go_simp; done) | (go_simp; rfl)); intro ga hg_ wb BA hb; (try (have HRT2 := qab.mk (Kd.R_below HRT.out hb))); have GA : wm.heap.size ≤ ga := (by rw [hg_]; exact hHeld.2.2.2.2.2.2.2.out.hm.size); have GB2 : w.heap.size ≤ ga := (by rw [hg_]; exact hHeld.2.2.2.2.2.2.2.out.hb.size); have NA : gb ≠ ga := (by rw [hg_]; exact Nat.ne_of_lt (blk_lt hHeld.2.2.2.2.2.2.2.out.b)); clear hg_; refine hK.out _ _ (HT.out wb (ITI.below hHeld.2.2.2.2.2.2.2.out hb)) (fun hHeld => ?_); clear hK K hb; refine norm_ (a' := ?_) ?_ ?_; rotate_left; (focus (show Act.put _ (some 19) _ = _; simp only [Act.put, qzA, qzB, qzC, i64_w, i32_w]; rfl))
      refine one_ (i := 17) (N := some 163) #[true, true, true, true, true, true, true, true, true, true, true, true, true, true, true, true, true, true, true, true, true, true, true, true, true, false, false, false, false, false, true, false, false] rfl rfl (by kernel_rfl) (by decide) (fun K hK => ?_)
      refine goes_ Try.func34 (by kernel_rfl) rfl #[.agg #[.int .i64 f0, .int .i64 f1], .int .i64 p0] (by rfl) rfl rfl (by (try simp only [List.map_toArray, List.map_cons, List.map_nil]); first | done | rfl | (simp only [List.length_drop, List.length_take]; rfl)) ?_
      refine (HPA.out _).mono ?_; rintro e w4 ⟨rfl, hb⟩; replace BA := qag BA hb; have HP4 := qab.mk (HT.out w4 (ITI.below hHeld.2.2.2.2.2.2.2.out hb)); clear hb; refine ⟨_, rfl, ?_⟩; refine hK.out _ _ HP4.out (fun hHeld => ?_); clear hK K; refine norm_ (a' := ?_) ?_ ?_; rotate_left; (focus (show Act.put _ (some 163) _ = _; simp only [Act.put, qzA, qzB, qzC, i64_w, i32_w]; rfl))
      refine one_ (i := 25) (N := some 171) #[true, true, true, true, true, true, true, true, true, true, true, true, true, true, true, true, true, true, true, true, true, true, true, true, true, true, false, false, false, false, true, false, false] rfl rfl (by kernel_rfl) (by decide) (fun K hK => ?_)
      refine goes_ Try.func35 (by kernel_rfl) rfl #[.agg #[.slice (some ad) l0_0.length c0_0, .slice A0_1 l0_1.length c0_1, .slice (some ad2) l0_2.length c0_2], .int .i64 xn, .int .i64 (hn : Int), .slice (some aw) l4.length c4] (by rfl) rfl rfl (by (try simp only [List.map_toArray, List.map_cons, List.map_nil]); first | done | rfl | (simp only [List.length_drop, List.length_take]; rfl)) ?_
      refine (HTRU.out _ hHeld.2.2.2.2.2.2.2.out.hb).mono ?_; rintro e w5 ⟨v5, rfl, ho, hb⟩; replace BA := qag BA hb; obtain ⟨tA, tc, rfl⟩ := Kd.R_slice ho; have HP5 := qab.mk (HT.out w5 (ITI.below hHeld.2.2.2.2.2.2.2.out hb)); have HRT := qab.mk ho; clear ho hb; refine ⟨_, rfl, ?_⟩; refine hK.out _ _ HP5.out (fun hHeld => ?_); clear hK K; refine norm_ (a' := ?_) ?_ ?_; rotate_left; (focus (show Act.put _ (some 171) _ = _; simp only [Act.put, qzA, qzB, qzC, i64_w, i32_w]; rfl))
      refine one_ (i := 26) (N := some 172) #[true, true, true, true, true, true, true, true, true, true, true, true, true, true, true, true, true, true, true, true, true, true, true, true, true, true, true, false, false, false, true, false, false] rfl rfl (by kernel_rfl) (by decide) (fun K hK => ?_)
      refine goes_ Try.func18 (by kernel_rfl) rfl #[.agg #[.slice (some ad) l0_0.length c0_0, .slice A0_1 l0_1.length c0_1, .slice (some ad2) l0_2.length c0_2], .int .i64 xn, .int .i64 pw, .slice tA e0.length tc] (by rfl) rfl rfl (by (try simp only [List.map_toArray, List.map_cons, List.map_nil]); first | done | rfl | (simp only [List.length_drop, List.length_take]; rfl)) ?_
      refine (HPLY.out tA tc _ hHeld.2.2.2.2.2.2.2.out.hb (by first | exact ⟨_, _, HRT.out⟩ | exact ⟨_, _, HRT2.out⟩)).mono ?_; rintro e w6 ⟨rfl, hb⟩; replace BA := qag BA hb; have HP6 := qab.mk (HT.out w6 (ITI.below hHeld.2.2.2.2.2.2.2.out hb)); clear hb; refine ⟨_, rfl, ?_⟩; refine hK.out _ _ HP6.out (fun hHeld => ?_); clear hK K; refine norm_ (a' := ?_) ?_ ?_; rotate_left; (focus (show Act.put _ (some 172) _ = _; simp only [Act.put, qzA, qzB, qzC, i64_w, i32_w]; rfl))
      refine pure_ (i := 27) (N := some 145) (v := ?_) (a' := ?_) #[true, true, true, true, true, true, true, true, true, true, true, true, true, true, true, true, true, true, true, true, true, true, true, true, true, true, true, true, false, false, true, false, false] rfl rfl (by kernel_rfl) (fun _ _ _ h => h) (Or.inl ⟨by rfl, ?_⟩) ?_ ?_; rotate_left; (focus (intro w'; go_simp; with_reducible rfl)); rotate_left; (focus (simp only [Act.put, qzA, qzB, qzC, i64_w, i32_w]; rfl))
      refine pure_ (i := 28) (N := some 173) (v := ?_) (a' := ?_) #[true, true, true, true, true, true, true, true, true, true, true, true, true, true, true, true, true, true, true, true, true, true, true, true, true, true, true, true, true, false, true, false, false] rfl rfl (by kernel_rfl) (fun _ _ _ h => h) (Or.inl ⟨by rfl, ?_⟩) ?_ ?_; rotate_left; (focus (intro w'; go_simp; with_reducible rfl)); rotate_left; (focus (simp only [Act.put, qzA, qzB, qzC, i64_w, i32_w]; rfl))
      refine pure_ (i := 29) (N := some 174) (v := ?_) (a' := ?_) (msk 33 31) rfl rfl (by kernel_rfl) (fun _ _ _ h => h) (Or.inl ⟨by rfl, ?_⟩) ?_ ?_; rotate_left; (focus (intro w'; go_simp; with_reducible rfl)); rotate_left; (focus (simp only [Act.put, qzA, qzB, qzC, i64_w, i32_w]; rfl))
      exact norm_ (by simp only [putAll, Act.put, qzA, qzB, qzC]) (hCont (tA, tc, ga) _ ⟨hHeld, BA, GA, GB2, NA⟩)
    rintro ⟨zA, zc, g19⟩ wj ⟨hS_, BA_, GA_, GB_, NA_⟩
    have hHeld := hS_
    have fA_ := qac BA_; have cA_0 : wj.cell? ⟨g19, 0, none⟩ = some (.int .i64 0) := qaa BA_ 0; have cA_1 : wj.cell? ⟨g19, 1, none⟩ = some (.int .i64 0) := qaa BA_ 1; have cA_2 : wj.cell? ⟨g19, 2, none⟩ = some (.int .i64 0) := qaa BA_ 2; have cA_3 : wj.cell? ⟨g19, 3, none⟩ = some (.int .i64 0) := qaa BA_ 3
    simp only [putAll, Act.put, qzA, qzB, qzC]
    refine last_ (i := 31) (N := none) (msk 33 32) rfl rfl (by kernel_rfl) (by decide) (fun K hK => ?_); refine skip_ (w1 := ?_) (by rfl) rfl ?_ ?_; rotate_left; (focus (go_simp; rfl)); refine hK.out _ _ ?_; clear hK K hHeld
    have BA2 := qab.mk (blk_set (blk_set (blk_set (blk_set BA_ 0 (.int .i64 x0)) 1 (.int .i64 y0)) 2 (.int .i64 z0)) 3 (.int .i64 u0)); have HQ := qab.mk (ITI.put (ITI.put (ITI.put (ITI.put hS_.2.2.2.2.2.2.2.out GB_ GA_ 0 (.int .i64 x0) NA_) GB_ GA_ 1 (.int .i64 y0) NA_) GB_ GA_ 2 (.int .i64 z0) NA_) GB_ GA_ 3 (.int .i64 u0) NA_); clear hS_ BA_ GA_ GB_ NA_ fA_ cA_0 cA_1 cA_2 cA_3
    generalize (((wj.setCell ⟨g19, 0, none⟩ (.int .i64 x0)).setCell ⟨g19, 1, none⟩ (.int .i64 y0)).setCell ⟨g19, 2, none⟩ (.int .i64 z0)).setCell ⟨g19, 3, none⟩ (.int .i64 u0) = wn at HQ BA2 ⊢
    refine pure_ (i := 32) (N := some 20) (v := ?_) (a' := ?_) (msk 33 33) rfl rfl (by kernel_rfl) (fun _ _ _ h => h) (Or.inl ⟨by rfl, ?_⟩) ?_ ?_; rotate_left; (focus (intro w'; go_simp; with_reducible rfl)); rotate_left; (focus (simp only [Act.put, qzA, qzB, qzC, i64_w, i32_w]; rfl))
    refine done_ (by kernel_rfl) ?_
    go_wp2_with fail
    go_meet
    case rel => exact ⟨g19, rfl, rfl, HQ, BA2⟩
   case rest =>
   obtain ⟨g19, rfl, rfl, HQ, BA2⟩ := hcut
   have b19 : wc.cell? ⟨g19, 0, none⟩ = some (.int .i64 x0) := (qaa BA2.out 0).trans rfl
   go_wp2_with fail
   go_roundw
   case rel =>
    exact ⟨⟨k + 1, _, _, _, by omega, rfl, rfl, by (try rw [wrap_id (x := (k : Int) + 1) (by omega) (by omega)]); go_num, HNEXT, HQ⟩⟩
   case measure => simp [intOf]; omega
  ·
   obtain rfl : k = o.length := by omega
   go_wp2_with (first | (go_at_call 17; with_reducible refine (HKNOWN.out _ HIT0.out.hb).mono ?_; rintro e wq ⟨rfl, hb⟩; have HBQ := qab.mk (qad HIT0.out.hb hb); clear hb))
   go_ret
   exact ⟨rfl, HBQ.out⟩
end Go.Proofs.Ytipphcjgdebecaa.PA
