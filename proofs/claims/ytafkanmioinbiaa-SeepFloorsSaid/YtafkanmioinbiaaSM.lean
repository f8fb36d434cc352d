/- What functions of the program answer. No condition. -/
import Derived.Test.YtafkanmioinbiaaSC
import Derived.Test.YtafkanmioinbiaaSD
import Derived.Test.YtafkanmioinbiaaSF
import Derived.Test.YtafkanmioinbiaaSK
import Derived.Test.YtafkanmioinbiaaSL
import Derived.Test.YtafkanmioinbiaaSG
set_option linter.all false
set_option maxRecDepth 100000
set_option maxHeartbeats 8000000
namespace Go.Proofs.Ytafkanmioinbiaa.SA
open Go.RowKit Go.Proofs.YtafkanmioinbiaaW.PrintWords Go.Proofs.YtafkanmioinbiaaW.PrintLast Go.Proofs.YtafkanmioinbiaaW.PrintMore
attribute [local go_sem] qax qaz max_two min_two qao qap qay qba
attribute [local go_sem] Oper.semAt_some
theorem fair1_calls (b1 gd : Nat) (x : Int) (A3 : Option Addr) (c3 : Nat) (l3 : List Int) (v0 v1 v2 v4 v5 v6 : Value) (w : World) (hr : Kd.C (Kd.int .i64) w A3 l3.length l3) (hc3 : l3.length ≤ c3) (h1 : w.heap[b1]? = some (.cells #[.pointer (some ⟨gd, 0, none⟩)] 84 (0, 0)))
  (hd : w.heap[gd]? = some (.cells #[v0, v1, v2, .slice A3 l3.length c3, v4, v5, v6] 123 (0, 0))) :
  Calls Try.prog 105 #[.int .i64 x, .pointer (some ⟨b1, 0, none⟩)] w fun e w' => e = .returned (.bool (l3.contains x)) ∧ Below w.heap.size w w' := by
 have hu123 := Try.underlying123
 have hu27 := Try.underlying27
 have q0 : w.cell? ⟨b1, 0, none⟩ = some (.pointer (some ⟨gd, 0, none⟩)) := (qaa h1 0).trans rfl
 have q3 : w.cell? ⟨gd, 3, none⟩ = some (.slice A3 l3.length c3) := (qaa hd 3).trans rfl
 have HC := qab.mk (contains_calls A3 c3 l3 x w hr hc3)
 clear hr h1 hd
 go_enter Try.func105, Try.ntmps105
 go_wp2_with (go_at_call 64; (with_reducible refine HC.out.mono ?_); rintro e w2 ⟨rfl, hb⟩; have HB := qab.mk hb; clear hb)
 go_ret
 exact ⟨by first | rfl | (simp; done), HB.out⟩
def fairBad1 (d : Int) (es : List S44) (ws wl : List Int) (l4 : List S41) (routes : List (List Int)) (n : Nat) : Bool :=
 match endsV d es ws l4 (rd_L4 routes n) with | none => true | some xs => !(xs.any fun p => wl.contains p)
def allTo (routes : List (List Int)) (prices : List Int) (i : Int) : Nat → Int
 | 0 => 0
 | n + 1 => if (rd_L4 routes (n : Nat)).contains i = true then allTo routes prices i n + rd prices (n : Nat) else allTo routes prices i n
def costBad (es : List S44) (routes : List (List Int)) (prices : List Int) (i : Nat) : Bool := !decide ((qav es i).f3 = -1) && decide (allTo routes prices i routes.length > (qav es i).f3)
def fairR (d : Int) (es : List S44) (ws wl : List Int) (l4 : List S41) (routes : List (List Int)) (prices : List Int) : Option Int :=
 match (List.range routes.length).find? (fairBad1 d es ws wl l4 routes) with
 | some n => some (n : Int)
 | none => if (List.range es.length).any (costBad es routes prices) = true then some (-1) else none
def FairPost : Option Int → Ending → Prop
 | none, e => e = .returned (.tuple #[])
 | some n, e => e = unfairP n
theorem fairR_first {d : Int} {es : List S44} {ws wl : List Int} {l4 : List S41} {routes : List (List Int)} {prices : List Int} (n : Nat) (hn : n < routes.length) (h : ∀ j, j < n → fairBad1 d es ws wl l4 routes j = false) (hb : fairBad1 d es ws wl l4 routes n = true) : fairR d es ws wl l4 routes prices = some (n : Int) := by
 unfold fairR
 have : (List.range routes.length).find? (fairBad1 d es ws wl l4 routes) = some n := by
  rw [List.find?_eq_some_iff_getElem]
  refine ⟨hb, n, by simpa using hn, by simp, fun j hj => ?_⟩
  have := h j hj
  simp [this]
 rw [this]
theorem fairR_second {d : Int} {es : List S44} {ws wl : List Int} {l4 : List S41} {routes : List (List Int)} {prices : List Int} (h : ∀ j, j < routes.length → fairBad1 d es ws wl l4 routes j = false) : fairR d es ws wl l4 routes prices = if (List.range es.length).any (costBad es routes prices) = true then some (-1) else none := by
 unfold fairR
 have : (List.range routes.length).find? (fairBad1 d es ws wl l4 routes) = none := by
  rw [List.find?_eq_none]
  intro x hx
  have := h x (List.mem_range.1 hx)
  simp [this]
 rw [this]
theorem allTo_bound (routes : List (List Int)) (prices : List Int) (i : Int) (h : ∀ k : Nat, k < routes.length → 0 ≤ rd prices k ∧ rd prices k ≤ 1000000) : ∀ n, n ≤ routes.length → 0 ≤ allTo routes prices i n ∧ allTo routes prices i n ≤ n * 1000000
 | 0, _ => by simp [allTo]
 | n + 1, hn => by
  have ih := allTo_bound routes prices i h n (by omega)
  have := h n (by omega)
  unfold allTo
  split <;> (push_cast; omega)
theorem fair_calls (gd : Nat) (v0 v5 : Value) (A1 : Option Addr) (c1 : Nat) (l1 : List S44) (A2 : Option Addr) (c2 : Nat) (l2 : List Int) (A3 : Option Addr) (c3 : Nat) (l3 : List Int) (A4 : Option Addr) (c4 : Nat) (l4 : List S41) (d : Int) (Ar : Option Addr) (cr : Nat) (routes : List (List Int)) (Ap : Option Addr) (cp : Nat) (prices : List Int) (w : World)
  (hr1 : Kd.C k44 w A1 l1.length l1) (hr2 : Kd.C (Kd.int .i64) w A2 l2.length l2) (hc2 : l2.length ≤ c2) (hr3 : Kd.C (Kd.int .i64) w A3 l3.length l3) (hc3 : l3.length ≤ c3) (hr4 : Kd.C k41 w A4 l4.length l4) (h15 : l4.length ≤ 100) (h12 : l1.length ≤ 12) (hrr : Kd.C (Kd.slice 3 (Kd.int .i64)) w Ar routes.length routes) (hrp : Kd.C (Kd.int .i64) w Ap prices.length prices) (hpl : prices.length = routes.length) (hrl : routes.length ≤ 100)
  (hl : ∀ n : Nat, n < routes.length → (rd_L4 routes n).length ≤ 1000) (hre : ∀ n k : Nat, n < routes.length → k < (rd_L4 routes n).length → 0 ≤ rd (rd_L4 routes n) k ∧ rd (rd_L4 routes n) k < l1.length) (hpr : ∀ k : Nat, k < routes.length → 0 ≤ rd prices k ∧ rd prices k ≤ 1000000)
  (hd : w.heap[gd]? = some (.cells #[v0, .slice A1 l1.length c1, .slice A2 l2.length c2, .slice A3 l3.length c3, .slice A4 l4.length c4, v5, .int .i64 d] 123 (0, 0))) :
  Calls Try.prog 80 #[.pointer (some ⟨gd, 0, none⟩), .slice Ar routes.length cr, .slice Ap prices.length cp] w fun e w' => FairPost (fairR d l1 l2 l3 l4 routes prices) e ∧ Below w.heap.size w w' := by
 have hu123 := Try.underlying123
 have hu27 := Try.underlying27
 have hu44 := Try.underlying44
 have hu117 := Try.underlying117
 have hli := lateIface
 have hmf : ∀ (fn : Fn) (first cap : Array Value) (w : World), (Instr.makeFunc fn first cap).run Try.prog w = .ok (.func fn first cap) w := fun _ _ _ _ => rfl
 have HB := qab.mk (Below.refl w.heap.size w)
 have HD := qab.mk hd
 have HR1 := qab.mk hr1
 have HR3 := qab.mk hr3
 have HRR := qab.mk hrr
 have HRP := qab.mk hrp
 have HPR := qab.mk hpr
 have HPL := qab.mk hpl
 have HEN : qab (∀ (n : Nat) (W : World) (A : Option Addr) (c : Nat), n < routes.length → Below w.heap.size w W → Kd.C (Kd.int .i64) w A (rd_L4 routes n).length (rd_L4 routes n) → Calls Try.prog 104 #[.pointer (some ⟨gd, 0, none⟩), .int .i64 (n : Int), .slice A (rd_L4 routes n).length c] W fun e w' => EndsPost n (endsV d l1 l2 l4 (rd_L4 routes n)) e w' ∧ Below W.heap.size W w') := ⟨fun n W A c hn hW hA => ends_calls gd _ _ _ A1 _ l1 A2 _ l2 A4 _ l4 d n A c (rd_L4 routes n) W (Kd.qai hr1 hW) (Kd.qai hr2 hW) hc2 (Kd.qai hr4 hW) h15 h12 (Kd.qai hA hW) (hl n hn) (fun k hk => hre n k hn hk) (qad hd hW)⟩
 clear hr1 hr2 hr3 hr4 hrr hrp hpr hl hre hd hpl
 go_enter Try.func80, Try.ntmps80
 go_wp2_with ((with_reducible refine qam (N := 3) rfl ?_); refine ze 3 #[.pointer (some ⟨gd, 0, none⟩)] 84 ?_; intro gt hg_gt w2 hbox hb; have BKgt := qab.mk hbox; have n_HB := qab.mk (qae HB.out hb); have GEgt : w.heap.size ≤ gt := (by rw [hg_gt]; exact HB.out.size); clear HB; have HB := n_HB; clear n_HB; obtain ⟨hfgt, hcgt_0⟩ := qz1 BKgt.out; clear hbox hb hg_gt)
 go_loopw [15] (fun s15 wr => ∃ n : Nat, n ≤ routes.length ∧ s15 = .int .i64 n ∧ qab (∀ j, j < n → fairBad1 d l1 l2 l3 l4 routes j = false) ∧ qab (wr.heap[gt]? = some (.cells #[.pointer (some ⟨gd, 0, none⟩)] 84 (0, 0))) ∧ qab (Below w.heap.size w wr)) (fun s _ => routes.length - (intOf s).toNat)
 case atStart => exact ⟨0, by omega, rfl, ⟨fun j h => by omega⟩, BKgt, HB⟩
 case round =>
  clear HB BKgt hfgt hcgt_0
  obtain ⟨n, hn, rfl, HN, BKgt, HB⟩ := hrel
  by_cases hlt : n < routes.length
  ·
   obtain ⟨ar, A0, c0, e, q0, hcc, hC⟩ := at_L4 HRR.out n (by omega) (by omega)
   cases e
   simp only [Int.toNat_natCast] at q0
   replace q0 := (HB.out.cell (World.block_lt_of_cell? w _ q0)).trans q0
   have HEC : qab (∀ W, Below w.heap.size w W → Calls Try.prog 104 #[.pointer (some ⟨gd, 0, none⟩), .int .i64 (n : Int), .slice A0 (rd_L4 routes n).length c0] W fun e w' => EndsPost n (endsV d l1 l2 l4 (rd_L4 routes n)) e w' ∧ Below W.heap.size W w') := ⟨fun W hW => HEN.out n W A0 c0 hlt hW hC⟩
   have HFB : qab (fairBad1 d l1 l2 l3 l4 routes n = (match endsV d l1 l2 l4 (rd_L4 routes n) with | none => true | some xs => !(xs.any fun p => l3.contains p))) := ⟨rfl⟩
   generalize rd_L4 routes n = row at q0 HEC HFB
   have f_t : wr.cell? ⟨gt, 0, none⟩ = some (.pointer (some ⟨gd, 0, none⟩)) := (qaa BKgt.out 0).trans rfl
   clear hcc hC
   cases hev : endsV d l1 l2 l4 row with
   | none =>
    rw [hev] at HEC HFB
    have HX : qab (fairR d l1 l2 l3 l4 routes prices = some (n : Int)) := ⟨fairR_first n hlt HN.out HFB.out⟩
    clear hev HFB
    go_wp2_with (go_at_call 104; (with_reducible refine (HEC.out _ HB.out).mono ?_); rintro e wn ⟨he, hb⟩; have he2 : e = .panicked [{ v := .iface 117 (.agg #[.int .i64 (n : Int)]), recovered := false }] := he; subst he2; have HB2 := qab.mk (qae HB.out hb); clear hb he)
    exact ⟨rfl, by rw [HX.out]; rfl, HB2.out⟩
   | some xs =>
    rw [hev] at HEC HFB
    obtain ⟨wb, hwb⟩ : ∃ b, b = xs.any (fun p => l3.contains p) := ⟨_, rfl⟩
    have HFB2 : qab (fairBad1 d l1 l2 l3 l4 routes n = !wb) := ⟨by rw [hwb]; exact HFB.out⟩
    have HWB := qab.mk hwb
    clear hev HFB hwb
    cases wb with
    | false =>
     have HX : qab (fairR d l1 l2 l3 l4 routes prices = some (n : Int)) := ⟨fairR_first n hlt HN.out HFB2.out⟩
     go_wp2_with (first | (go_at_call 104; (with_reducible refine (HEC.out _ HB.out).mono ?_); rintro e wn ⟨⟨A5, c5, he, hcx, hC⟩, hb⟩; subst he; replace BKgt := qab.mk (qad BKgt.out hb); replace HB := qab.mk (qae HB.out hb); clear hb; have HHAS : qab (Calls Try.prog 74 #[.slice A5 xs.length c5, .func (.func 105) #[] #[.pointer (some ⟨gt, 0, none⟩)]] wn fun e w' => e = .returned (.bool false) ∧ Below wn.heap.size wn w') := ⟨by have h := has105 _ xs A5 c5 (fun p => l3.contains p) wn hC (fun i W h0 h1 hW => fair1_calls gt gd (rd xs i) A3 c3 l3 _ _ _ _ _ _ W (Kd.qai HR3.out (qae HB.out hW)) hc3 (qad BKgt.out hW) (qad HD.out (qae HB.out hW))); rw [← HWB.out] at h; exact h⟩; clear hC hcx; have f_t : wn.cell? ⟨gt, 0, none⟩ = some (.pointer (some ⟨gd, 0, none⟩)) := (qaa BKgt.out 0).trans rfl) | (go_at_call 74; (with_reducible refine HHAS.out.mono ?_); rintro e wh ⟨rfl, hb⟩; replace BKgt := qab.mk (qad BKgt.out hb); replace HB := qab.mk (qae HB.out hb); clear hb))
     exact ⟨rfl, by rw [HX.out]; rfl, HB.out⟩
    | true =>
     go_wp2_with (first | (go_at_call 104; (with_reducible refine (HEC.out _ HB.out).mono ?_); rintro e wn ⟨⟨A5, c5, he, hcx, hC⟩, hb⟩; subst he; replace BKgt := qab.mk (qad BKgt.out hb); replace HB := qab.mk (qae HB.out hb); clear hb; have HHAS : qab (Calls Try.prog 74 #[.slice A5 xs.length c5, .func (.func 105) #[] #[.pointer (some ⟨gt, 0, none⟩)]] wn fun e w' => e = .returned (.bool true) ∧ Below wn.heap.size wn w') := ⟨by have h := has105 _ xs A5 c5 (fun p => l3.contains p) wn hC (fun i W h0 h1 hW => fair1_calls gt gd (rd xs i) A3 c3 l3 _ _ _ _ _ _ W (Kd.qai HR3.out (qae HB.out hW)) hc3 (qad BKgt.out hW) (qad HD.out (qae HB.out hW))); rw [← HWB.out] at h; exact h⟩; clear hC hcx; have f_t : wn.cell? ⟨gt, 0, none⟩ = some (.pointer (some ⟨gd, 0, none⟩)) := (qaa BKgt.out 0).trans rfl) | (go_at_call 74; (with_reducible refine HHAS.out.mono ?_); rintro e wh ⟨rfl, hb⟩; replace BKgt := qab.mk (qad BKgt.out hb); replace HB := qab.mk (qae HB.out hb); clear hb))
     go_roundw
     case rel => exact ⟨n + 1, by omega, by go_num, ⟨fun j hj => by
      rcases Nat.lt_or_ge j n with h | h
      ·
       exact HN.out j h
      ·
       obtain rfl : j = n := by omega
       exact HFB2.out⟩, BKgt, HB⟩
     case measure => simp [intOf]; omega
  ·
   have HF2 : qab (fairR d l1 l2 l3 l4 routes prices = if (List.range l1.length).any (costBad l1 routes prices) = true then some (-1) else none) := ⟨fairR_second (fun j hj => HN.out j (by omega))⟩
   have f_t : wr.cell? ⟨gt, 0, none⟩ = some (.pointer (some ⟨gd, 0, none⟩)) := (qaa BKgt.out 0).trans rfl
   have f_1 : wr.cell? ⟨gd, 1, none⟩ = some (.slice A1 l1.length c1) := (qaa (qad HD.out HB.out) 1).trans rfl
   clear HN HEN
   go_wp2
   clear f_t f_1
   go_loopw [37] (fun s37 wr => ∃ i : Nat, i ≤ l1.length ∧ s37 = .int .i64 i ∧ qab (∀ j, j < i → costBad l1 routes prices j = false) ∧ qab (wr.heap[gt]? = some (.cells #[.pointer (some ⟨gd, 0, none⟩)] 84 (0, 0))) ∧ qab (Below w.heap.size w wr)) (fun s _ => l1.length - (intOf s).toNat)
   case atStart => exact ⟨0, by omega, rfl, ⟨fun j h => by omega⟩, BKgt, HB⟩
   case round =>
    clear HB BKgt
    obtain ⟨i, hi, rfl, HN, BKgt, HB⟩ := hrel
    by_cases hlt2 : i < l1.length
    ·
     obtain ⟨a1, e, q0, q1, q2, q3⟩ := at_T44 HR1.out i (by omega) (by omega)
     cases e
     replace q0 := (HB.out.cell (World.block_lt_of_cell? w _ q0)).trans q0; replace q1 := (HB.out.cell (World.block_lt_of_cell? w _ q1)).trans q1; replace q2 := (HB.out.cell (World.block_lt_of_cell? w _ q2)).trans q2; replace q3 := (HB.out.cell (World.block_lt_of_cell? w _ q3)).trans q3
     simp only [Int.toNat_natCast] at q0 q1 q2 q3
     have HCB : qab (costBad l1 routes prices i = (!decide ((qav l1 i).f3 = -1) && decide (allTo routes prices i routes.length > (qav l1 i).f3))) := ⟨rfl⟩
     generalize qav l1 i = X at q0 q1 q2 q3 HCB
     obtain ⟨e0, e1, e2, e3⟩ := X
     dsimp only at q0 q1 q2 q3 HCB
     go_upto_region 10 with ((with_reducible refine qam (N := 9) rfl ?_); refine ze 9 #[.int .i64 0, .int .i64 0, .int .i64 0, .int .i64 0] 44 ?_; intro ge hg_ge w4 hbox hb; have BKge := qab.mk hbox; replace BKgt := qab.mk (qad BKgt.out hb); have n_HB := qab.mk (qae HB.out hb); have GEge : w.heap.size ≤ ge := (by rw [hg_ge]; exact HB.out.size); clear HB; have HB := n_HB; clear n_HB; obtain ⟨hfge, hcge_0, hcge_1, hcge_2, hcge_3⟩ := qz4 BKge.out; clear hbox hb hg_ge)
     clear q0 q1 q2 q3 hfge hcge_0 hcge_1 hcge_2 hcge_3
     have NEt : gt ≠ ge := blk_ne BKgt.out BKge.out (by decide); have he_ : setAll w4 ge [.int .i64 e0, .int .i64 e1, .int .i64 e2, .int .i64 e3] 0 = ((((w4.setCell ⟨ge, 0, none⟩ (.int .i64 e0)).setCell ⟨ge, 1, none⟩ (.int .i64 e1)).setCell ⟨ge, 2, none⟩ (.int .i64 e2)).setCell ⟨ge, 3, none⟩ (.int .i64 e3)) := rfl; have hbl := setAll_below GEge [.int .i64 e0, .int .i64 e1, .int .i64 e2, .int .i64 e3] 0 _ HB.out; have hbx : (setAll w4 ge [.int .i64 e0, .int .i64 e1, .int .i64 e2, .int .i64 e3] 0).heap[ge]? = some (.cells #[.int .i64 e0, .int .i64 e1, .int .i64 e2, .int .i64 e3] 44 (0, 0)) := setAll_new [.int .i64 e0, .int .i64 e1, .int .i64 e2, .int .i64 e3] [.int .i64 0, .int .i64 0, .int .i64 0, .int .i64 0] BKge.out rfl; have hx_BKgt := setAll_far NEt [.int .i64 e0, .int .i64 e1, .int .i64 e2, .int .i64 e3] 0 _ BKgt.out; rw [he_] at hbl hbx hx_BKgt; clear he_; generalize ((((w4.setCell ⟨ge, 0, none⟩ (.int .i64 e0)).setCell ⟨ge, 1, none⟩ (.int .i64 e1)).setCell ⟨ge, 2, none⟩ (.int .i64 e2)).setCell ⟨ge, 3, none⟩ (.int .i64 e3)) = w5 at hbl hbx hx_BKgt ⊢; clear HB BKge; have HB := qab.mk hbl; have BKge := qab.mk hbx; clear hbl hbx; clear BKgt; have BKgt := qab.mk hx_BKgt; clear hx_BKgt
     go_wp2
     go_loopw [10, 44] (fun s10 s44 wr => ∃ n : Nat, n ≤ routes.length ∧ s44 = .int .i64 n ∧ s10 = .int .i64 (allTo routes prices i n) ∧ qab (wr.heap[ge]? = some (.cells #[.int .i64 e0, .int .i64 e1, .int .i64 e2, .int .i64 e3] 44 (0, 0))) ∧ qab (wr.heap[gt]? = some (.cells #[.pointer (some ⟨gd, 0, none⟩)] 84 (0, 0))) ∧ qab (Below w.heap.size w wr)) (fun _ s _ => routes.length - (intOf s).toNat)
     case atStart => exact ⟨0, by omega, rfl, rfl, BKge, BKgt, HB⟩
     case round =>
      clear HB BKgt BKge
      obtain ⟨n, hn, rfl, rfl, BKge, BKgt, HB⟩ := hrel
      by_cases hlt3 : n < routes.length
      ·
       obtain ⟨ar, A0, c0, e, q0, hcc, hC⟩ := at_L4 HRR.out n (by omega) (by omega)
       cases e
       obtain ⟨ap, e, qp⟩ := Kd.at_int HRP.out n (by omega) (by have := HPL.out; omega)
       cases e
       have hnp : n < prices.length := by have := HPL.out; omega
       simp only [Int.toNat_natCast] at q0 qp
       have QP := qab.mk qp
       replace q0 := (HB.out.cell (World.block_lt_of_cell? w _ q0)).trans q0; replace qp := (HB.out.cell (World.block_lt_of_cell? w _ qp)).trans qp
       have hp := HPR.out n hlt3
       have ha := allTo_bound routes prices i HPR.out n hn
       have HAT : qab (allTo routes prices i (n + 1) = if (rd_L4 routes n).contains (i : Int) = true then allTo routes prices i n + rd prices n else allTo routes prices i n) := ⟨rfl⟩
       obtain ⟨hb, hhb⟩ : ∃ b, b = (rd_L4 routes n).contains (i : Int) := ⟨_, rfl⟩
       have HCON : qab (∀ W, Below w.heap.size w W → Calls Try.prog 64 #[.slice A0 (rd_L4 routes n).length c0, .int .i64 (i : Int)] W fun e w' => e = .returned (.bool hb) ∧ Below W.heap.size W w') := ⟨fun W hW => by rw [hhb]; exact contains_calls _ _ _ _ _ (Kd.qai hC hW) hcc⟩
       rw [← hhb] at HAT
       clear hhb hcc hC
       generalize rd_L4 routes n = row at q0 HCON
       generalize rd prices n = pr at qp QP hp HAT
       obtain ⟨al, hal⟩ : ∃ a, a = allTo routes prices i n := ⟨_, rfl⟩
       rw [← hal] at ha HAT ⊢
       have HSM : qab (∀ (W : World) (g : Nat), W.heap[g]? = some (.cells #[.int .i64 al, .int .i64 pr] 3 (0, 0)) → Calls Try.prog 81 #[.slice (some ⟨g, 0, none⟩) 2 2] W fun e w' => e = .returned (.int .i64 (al + pr)) ∧ Below W.heap.size W w') := ⟨fun W g h => sum2_calls al pr g W h ⟨by omega, by omega⟩ ⟨by omega, by omega⟩⟩
       clear hal
       cases hb with
       | false =>
        go_wp2_with (go_at_call 64; (with_reducible refine (HCON.out _ HB.out).mono ?_); rintro e wn ⟨rfl, hb⟩; replace BKgt := qab.mk (qad BKgt.out hb); replace BKge := qab.mk (qad BKge.out hb); replace HB := qab.mk (qae HB.out hb); clear hb)
        go_roundw
        case rel => exact ⟨n + 1, by omega, by go_num, by rw [HAT.out]; rfl, BKge, BKgt, HB⟩
        case measure => simp [intOf]; omega
       | true =>
        go_upto_region 15 with (go_at_call 64; (with_reducible refine (HCON.out _ HB.out).mono ?_); rintro e wn ⟨rfl, hb⟩; replace BKgt := qab.mk (qad BKgt.out hb); replace BKge := qab.mk (qad BKge.out hb); replace HB := qab.mk (qae HB.out hb); clear hb)
        have qp2 := (HB.out.cell (World.block_lt_of_cell? w _ QP.out)).trans QP.out
        clear qp q0
        go_wp2_with (go_at_call 81; (with_reducible refine (HSM.out _ _ (blk_new _ _)).mono ?_); rintro e ws ⟨rfl, hb⟩; have BKt2 := qab.mk (qad (qan BKgt.out _) hb); have BKe2 := qab.mk (qad (qan BKge.out _) hb); have HB2 := qab.mk (qae (qag HB.out _) hb); clear hb)
        go_roundw
        case rel => exact ⟨n + 1, by omega, by go_num, by rw [HAT.out]; rfl, BKe2, BKt2, HB2⟩
        case measure => simp [intOf]; omega
      ·
       have hnE : n = routes.length := by omega
       obtain ⟨al, hal⟩ : ∃ a, a = allTo routes prices i n := ⟨_, rfl⟩
       have HAL : qab (al = allTo routes prices i routes.length) := ⟨by rw [hal, hnE]⟩
       rw [← hal]
       have f3 : wr.cell? ⟨ge, 3, none⟩ = some (.int .i64 e3) := (qaa BKge.out 3).trans rfl
       clear hal hnE
       by_cases hm1 : e3 = -1
       ·
        have hm2 : (e3 != -1) = false := by simp [hm1]
        have HC1 : qab (costBad l1 routes prices i = false) := ⟨by rw [HCB.out, hm1]; rfl⟩
        clear hm1
        go_wp2
        go_roundw
        case rel => exact ⟨i + 1, by omega, by go_num, ⟨fun j hj => by
         rcases Nat.lt_or_ge j i with h | h
         ·
          exact HN.out j h
         ·
          obtain rfl : j = i := by omega
          exact HC1.out⟩, BKgt, HB⟩
        case measure => simp [intOf]; omega
       ·
        have hm2 : (e3 != -1) = true := by simp [hm1]
        by_cases hgt : al > e3
        ·
         have hg2 : decide (e3 < al) = true := decide_eq_true hgt
         have HX : qab (fairR d l1 l2 l3 l4 routes prices = some (-1)) := ⟨by
          rw [HF2.out, if_pos]
          rw [List.any_eq_true]
          exact ⟨i, List.mem_range.2 hlt2, by rw [HCB.out, ← HAL.out]; simp [hm1, hgt]⟩⟩
         clear hgt hm1
         go_wp2
         exact ⟨rfl, by rw [HX.out]; rfl, HB.out⟩
        ·
         have hg2 : decide (e3 < al) = false := decide_eq_false hgt
         have HC1 : qab (costBad l1 routes prices i = false) := ⟨by rw [HCB.out, ← HAL.out]; simp [hgt]⟩
         clear hgt hm1
         go_wp2
         go_roundw
         case rel => exact ⟨i + 1, by omega, by go_num, ⟨fun j hj => by
          rcases Nat.lt_or_ge j i with h | h
          ·
           exact HN.out j h
          ·
           obtain rfl : j = i := by omega
           exact HC1.out⟩, BKgt, HB⟩
         case measure => simp [intOf]; omega
    ·
     have HX : qab (fairR d l1 l2 l3 l4 routes prices = none) := ⟨by
      rw [HF2.out, if_neg]
      rw [List.any_eq_true]
      rintro ⟨j, hj, h⟩
      have hj' := List.mem_range.1 hj
      rw [HN.out j (by omega)] at h
      cases h⟩
     go_wp2
     go_end0
     exact ⟨by rw [HX.out]; rfl, HB.out⟩
theorem idxRows (p0 : Value) (l : List (List Int)) (A : Option Addr) (c : Nat) (p : List Int → Bool) (w : World) (hr : Kd.C (Kd.slice 3 (Kd.int .i64)) w A l.length l)
  (hq : ∀ (i : Nat) (A0 : Option Addr) (c0 : Nat) (W : World), i < l.length → Below w.heap.size w W → Kd.C (Kd.int .i64) w A0 (rd_L4 l i).length (rd_L4 l i) → (rd_L4 l i).length ≤ c0 → Calls Try.prog 77 #[.slice A0 (rd_L4 l i).length c0, p0] W fun e w' => e = .returned (.bool (p (rd_L4 l i))) ∧ Below W.heap.size W w') :
  Calls Try.prog 103 #[.slice A l.length c, .func (.func 77) #[] #[p0]] w fun e w' => e = .returned (.int .i64 (idxI p l)) ∧ Below w.heap.size w w' := by
 have hm := Kd.C_max hr
 have HR := qab.mk hr
 have HQ := qab.mk hq
 clear hr hq
 go_enter Try.func103, Try.ntmps103
 go_wp2
 go_loopw [8] (fun s8 wr => ∃ k : Nat, k ≤ l.length ∧ s8 = .int .i64 k ∧ qab (∀ j : Nat, j < k → p (l.getD j []) = false) ∧ qab (Below w.heap.size w wr)) (fun s8 _ => l.length - (intOf s8).toNat)
 case atStart => exact ⟨0, by omega, rfl, ⟨fun j h1 => by omega⟩, ⟨Below.refl _ _⟩⟩
 case round =>
  obtain ⟨k, hk1, rfl, HN, HB⟩ := hrel
  by_cases hlt : k < l.length
  ·
   obtain ⟨ad, A0, c0, e, hc, hcc, hC⟩ := at_L4 HR.out k (by omega) (by omega)
   cases e
   simp only [Int.toNat_natCast] at hc
   replace hc := (HB.out.cell (World.block_lt_of_cell? w _ hc)).trans hc
   have HCL : qab (∀ W, Below w.heap.size w W → Calls Try.prog 77 #[.slice A0 (rd_L4 l k).length c0, p0] W fun e w' => e = .returned (.bool (p (rd_L4 l k))) ∧ Below W.heap.size W w') := ⟨fun W hW => HQ.out k A0 c0 W hlt hW hC hcc⟩
   clear hC hcc
   cases hp : p (rd_L4 l k) with
   | true =>
    have HP := qab.mk hp
    rw [hp] at HCL
    clear hp
    go_wp2_with (go_at_call 77; (with_reducible refine (HCL.out _ HB.out).mono ?_); rintro e w1 ⟨rfl, hb⟩; have HB1 := qab.mk (qae HB.out hb); clear hb)
    go_ret
    exact ⟨by rw [idxI_some p l [] k hlt HN.out (by simpa [rd_L4] using HP.out)]; rfl, HB1.out⟩
   | false =>
    have HP := qab.mk hp
    rw [hp] at HCL
    clear hp
    go_wp2_with (go_at_call 77; (with_reducible refine (HCL.out _ HB.out).mono ?_); rintro e w1 ⟨rfl, hb⟩; have HB1 := qab.mk (qae HB.out hb); clear hb)
    go_roundw
    case rel => exact ⟨k + 1, by omega, by go_num, ⟨fun j hj => by
     rcases Nat.lt_or_ge j k with h | h
     ·
      exact HN.out j h
     ·
      obtain rfl : j = k := by omega
      simpa [rd_L4] using HP.out⟩, HB1⟩
    case measure => simp [intOf]; omega
  ·
   go_wp2
   go_ret
   exact ⟨by rw [idxI_none p l [] (fun j hj => HN.out j (by omega))]; rfl, HB.out⟩
theorem hasRows (p0 : Value) (l : List (List Int)) (A : Option Addr) (c : Nat) (p : List Int → Bool) (w : World) (hr : Kd.C (Kd.slice 3 (Kd.int .i64)) w A l.length l)
  (hq : ∀ (i : Nat) (A0 : Option Addr) (c0 : Nat) (W : World), i < l.length → Below w.heap.size w W → Kd.C (Kd.int .i64) w A0 (rd_L4 l i).length (rd_L4 l i) → (rd_L4 l i).length ≤ c0 → Calls Try.prog 77 #[.slice A0 (rd_L4 l i).length c0, p0] W fun e w' => e = .returned (.bool (p (rd_L4 l i))) ∧ Below W.heap.size W w') :
  Calls Try.prog 76 #[.slice A l.length c, .func (.func 77) #[] #[p0]] w fun e w' => e = .returned (.bool (l.any p)) ∧ Below w.heap.size w w' := by
 have HR := qab.mk hr
 have HQ := qab.mk hq
 clear hr hq
 go_enter Try.func76, Try.ntmps76
 go_wp2_with (go_at_call 103; refine (idxRows p0 l A c p _ HR.out HQ.out).mono ?_; rintro e w1 ⟨rfl, hb⟩; have HB := qab.mk hb; clear hb)
 go_ret
 exact ⟨by rw [← idxI_any p l]; rfl, HB.out⟩
theorem floor21_calls (gb : Nat) (x : Int) (n1 : Nat) (A1 : Option Addr) (c1 : Nat) (v0 v2 v3 v4 v5 : Value) (w : World) (h12 : n1 ≤ 1000) (hb : w.heap[gb]? = some (.cells #[v0, .slice A1 n1 c1, v2, v3, v4, v5] 27 (0, 0))) :
  Calls Try.prog 78 #[.int .i64 x, .pointer (some ⟨gb, 0, none⟩)] w fun e w' => e = .returned (.bool (!inB x 0 ((n1 : Int) - 1))) ∧ Below w.heap.size w w' := by
 have hu27 := Try.underlying27
 have q1 : w.cell? ⟨gb, 1, none⟩ = some (.slice A1 n1 c1) := (qaa hb 1).trans rfl
 clear hb
 go_enter Try.func78, Try.ntmps78
 go_wp2_with (go_at_call 55; (refine (in_calls x 0 ((n1 : Int) - 1) _).mono ?_); rintro e w1 ⟨rfl, hb⟩; have HB1 := qab.mk hb; clear hb)
 go_ret
 exact ⟨rfl, HB1.out⟩
theorem floor2_calls (gb : Nat) (row : List Int) (A : Option Addr) (c : Nat) (n1 : Nat) (A1 : Option Addr) (c1 : Nat) (v0 v2 v3 v4 v5 : Value) (w : World) (h12 : n1 ≤ 1000) (hr : Kd.C (Kd.int .i64) w A row.length row) (hb : w.heap[gb]? = some (.cells #[v0, .slice A1 n1 c1, v2, v3, v4, v5] 27 (0, 0))) :
  Calls Try.prog 77 #[.slice A row.length c, .pointer (some ⟨gb, 0, none⟩)] w fun e w' => e = .returned (.bool (row.any fun x => !inB x 0 ((n1 : Int) - 1))) ∧ Below w.heap.size w w' := by
 have hmf : ∀ (fn : Fn) (first cap : Array Value) (w : World), (Instr.makeFunc fn first cap).run Try.prog w = .ok (.func fn first cap) w := fun _ _ _ _ => rfl
 have HH := qab.mk (has78 (.pointer (some ⟨gb, 0, none⟩)) row A c (fun x => !inB x 0 ((n1 : Int) - 1)) w hr (fun i W h0 h1 hW => floor21_calls gb (rd row i) n1 A1 c1 v0 v2 v3 v4 v5 W h12 (qad hb hW)))
 obtain ⟨bv, hbv⟩ : ∃ b, b = row.any fun x => !inB x 0 ((n1 : Int) - 1) := ⟨_, rfl⟩
 rw [← hbv] at HH ⊢
 clear hr hb hbv
 go_enter Try.func77, Try.ntmps77
 go_wp2_with (go_at_call 74; (with_reducible refine HH.out.mono ?_); rintro e w1 ⟨rfl, hb⟩; have HB1 := qab.mk hb; clear hb)
 go_ret
 exact ⟨rfl, HB1.out⟩
theorem ta117 (v : Value) (W : World) : (Instr.typeAssert (.iface 117 v) 20 117 true).run Try.prog W = .ok (.tuple #[v, .bool true]) W := by
 have h := Try.underlying117
 simp [Instr.typeAssert, go_sem, h]
theorem floor3_late (g6 g7 : Nat) (x y i : Int) (w : World) (hb : w.heap[g6]? = some (.cells #[.int .i64 x] 3 (0, 0))) (hc : w.heap[g7]? = some (.cells #[.int .i64 y] 30 (0, 0))) :
  CallsD Try.prog 79 #[.pointer (some ⟨g6, 0, none⟩), .pointer (some ⟨g7, 0, none⟩)] (.panicking ({ v := .iface 117 (.agg #[.int .i64 i]), recovered := false } :: [])) w fun e u' w' =>
   e = .returned (.tuple #[]) ∧ u' = .panicking ({ v := .iface 117 (.agg #[.int .i64 i]), recovered := true } :: []) ∧ w' = ((w.alloc (.cells #[.int .i64 i] 117)).setCell ⟨g6, 0, none⟩ (.int .i64 0)).setCell ⟨g7, 0, none⟩ (.int .i64 7) := by
 have hta := ta117
 have hb1 := qan hb (.cells #[.int .i64 i] 117)
 have hc1 := blk_far (p := ⟨g6, 0, none⟩) (qan hc (.cells #[.int .i64 i] 117)) (blk_ne (qan hc (.cells #[.int .i64 i] 117)) hb1 (by decide)) (.int .i64 0)
 have h1 : (w.alloc (.cells #[.int .i64 i] 117)).cell? ⟨g6, 0, none⟩ = some (.int .i64 x) := qaa hb1 0
 have h2 : (w.alloc (.cells #[.int .i64 i] 117)).frozen? ⟨g6, 0, none⟩ = false := qac hb1 0
 have h3 : ((w.alloc (.cells #[.int .i64 i] 117)).setCell ⟨g6, 0, none⟩ (.int .i64 0)).cell? ⟨g7, 0, none⟩ = some (.int .i64 y) := qaa hc1 0
 have h4 : ((w.alloc (.cells #[.int .i64 i] 117)).setCell ⟨g6, 0, none⟩ (.int .i64 0)).frozen? ⟨g7, 0, none⟩ = false := qac hc1 0
 clear hb hb1 hc hc1
 refine callsD_of_wpS Try.func79 rfl fun c₀ cs hu => ?_
 apply wpS_seq
 apply wpS_region
 simp [wpOpsS, go_sem, recoverD, hu, Try.ntmps79, Exit.thenS]
 refine wpS_of_wp ?_
 go_wp2
 cases c₀
 simp_all [bodyPostS, results, Try.results79]
theorem floor3_idle (p q : Addr) (w : World) :
  CallsD Try.prog 79 #[.pointer (some p), .pointer (some q)] .returning w fun e u' w' => e = .returned (.tuple #[]) ∧ u' = .returning ∧ w' = w := by
 refine callsD_of_wpS Try.func79 rfl fun c₀ cs hu => ?_
 apply wpS_seq
 apply wpS_region
 simp [wpOpsS, go_sem, recoverD, hu, Try.ntmps79, Exit.thenS]
 refine wpS_of_wp ?_
 go_wp2
 cases c₀
 simp_all [bodyPostS, results, Try.results79]
def badP (prices : List Int) : Bool := prices.any fun n => !inB n 0 1000000
def badR (n1 : Nat) (routes : List (List Int)) : Bool := routes.any fun row => row.any fun x => !inB x 0 ((n1 : Int) - 1)
def floorF (prices : List Int) : Option Int → Int × Int
 | none => (prices.sum, 0)
 | some _ => (0, 7)
def floorV (p : Int) (l1 : List S44) (l2 l3 : List Int) (l4 : List S41) (l5 : List S95) (routes : List (List Int)) (prices : List Int) : Option (Int × Int) :=
 if 10 < routes.length ∨ 10 < prices.length then some (0, 3)
 else if givenB p l1 l2 l3 l4 l5 [] = true then
  (if routes.length = prices.length then
   (if badP prices = true then some (0, 2) else if badR l1.length routes = true then some (0, 2)
    else if (routes.all fun l => decide (l.length ≤ 1000)) = true then some (floorF prices (fairR 0 l1 l2 l3 l4 routes prices)) else none)
  else some (0, 2))
 else some (0, 2)
theorem sum_go2 (l : List Int) (h : ∀ k : Nat, k < l.length → 0 ≤ rd l k ∧ rd l k ≤ 1000000) (hl : l.length ≤ 1000) : ∀ (d i k : Nat), i + d = l.length → d < k → seep_sum.l0 k (l.take i).sum l (l.length : Int) (i : Int) = some l.sum ∧ 0 ≤ (l.take i).sum ∧ (l.take i).sum ≤ i * 1000000 := by
 have hb : ∀ i : Nat, i ≤ l.length → 0 ≤ (l.take i).sum ∧ (l.take i).sum ≤ i * 1000000 := by
  intro i
  induction i with
  | zero => intro _; simp
  | succ i ih =>
   intro hi
   have h1 := ih (by omega)
   have h2 := h i (by omega)
   have e : rd l (i : Int) = l[i] := by simp [rd, show i < l.length by omega]
   rw [e] at h2
   rw [List.take_succ, List.getElem?_eq_getElem (show i < l.length by omega)]
   simp only [Option.toList_some, List.sum_append, List.sum_cons, List.sum_nil]
   push_cast
   omega
 intro d
 induction d with
 | zero =>
  intro i k hd hk
  obtain ⟨k, rfl⟩ : ∃ j, k = j + 1 := ⟨k - 1, by omega⟩
  refine ⟨?_, hb i (by omega)⟩
  simp only [seep_sum.l0]
  rw [if_neg (by omega), List.take_of_length_le (by omega)]
 | succ d ih =>
  intro i k hd hk
  obtain ⟨k, rfl⟩ : ∃ j, k = j + 1 := ⟨k - 1, by omega⟩
  refine ⟨?_, hb i (by omega)⟩
  simp only [seep_sum.l0]
  have e : rd l (i : Int) = l[i] := by simp [rd, show i < l.length by omega]
  have h1 := hb i (by omega)
  have h2 := h i (by omega)
  rw [if_pos (by omega), if_pos (by omega), if_pos (by omega), show wrap64 ((i : Int) + 1) = ((i + 1 : Nat) : Int) from by unfold wrap64; omega]
  rw [show wrap64 ((l.take i).sum + rd l (i : Int)) = (l.take (i + 1)).sum from by
   rw [List.take_succ, List.getElem?_eq_getElem (show i < l.length by omega)]
   simp only [Option.toList_some, List.sum_append, List.sum_cons, List.sum_nil]
   rw [← e]
   unfold wrap64
   omega]
  exact (ih (i + 1) k (by omega) (by omega)).1
theorem sumAll_calls (A : Option Addr) (c : Nat) (l : List Int) (W : World) (hr : Kd.C (Kd.int .i64) W A l.length l) (hc : l.length ≤ c) (h : ∀ k : Nat, k < l.length → 0 ≤ rd l k ∧ rd l k ≤ 1000000) (hl : l.length ≤ 1000) :
  Calls Try.prog 81 #[.slice A l.length c] W fun e w' => e = .returned (.int .i64 l.sum) ∧ Below W.heap.size W w' :=
 (seep_sum.calls (l.length + 1) A c l _ W hr hc (sum_go2 l h hl l.length 0 (l.length + 1) (by omega) (by omega)).1).mono fun e w' ⟨h1, h2⟩ => ⟨h1, h2.below⟩
theorem C_nil (W : World) : Kd.C (Kd.int .i64) W none 0 ([] : List Int) := (Kd.R_reads' (Kd.R_nil (Kd.int .i64) 3 W 0 (fun _ => True))).2.2
def seep_Floor.f (a0_0 : Int) (l0_1 : List (S44)) (l0_2 : List Int) (l0_3 : List Int) (l0_4 : List (S41)) (l0_5 : List (S95)) (l1 : List (List Int)) (l2 : List Int) : Option (Int × Int) := floorV a0_0 l0_1 l0_2 l0_3 l0_4 l0_5 l1 l2
theorem seep_Floor.calls (a0_0 : Int) (A0_1 : Option Addr) (c0_1 : Nat) (l0_1 : List (S44)) (A0_2 : Option Addr) (c0_2 : Nat) (l0_2 : List Int) (A0_3 : Option Addr) (c0_3 : Nat) (l0_3 : List Int) (A0_4 : Option Addr) (c0_4 : Nat) (l0_4 : List (S41)) (A0_5 : Option Addr) (c0_5 : Nat) (l0_5 : List (S95)) (A1 : Option Addr) (c1 : Nat) (l1 : List (List Int)) (A2 : Option Addr) (c2 : Nat) (l2 : List Int) (r1 : Int) (r2 : Int) (w : World) (hr0_1 : Kd.C k44 w A0_1 l0_1.length l0_1) (hc0_1 : l0_1.length ≤ c0_1) (hr0_2 : Kd.C (Kd.int .i64) w A0_2 l0_2.length l0_2) (hc0_2 : l0_2.length ≤ c0_2) (hr0_3 : Kd.C (Kd.int .i64) w A0_3 l0_3.length l0_3) (hc0_3 : l0_3.length ≤ c0_3) (hr0_4 : Kd.C k41 w A0_4 l0_4.length l0_4) (hc0_4 : l0_4.length ≤ c0_4) (hr0_5 : Kd.C k95 w A0_5 l0_5.length l0_5) (hc0_5 : l0_5.length ≤ c0_5) (hr1 : Kd.C (Kd.slice 3 (Kd.int .i64)) w A1 l1.length l1) (hc1 : l1.length ≤ c1) (hr2 : Kd.C (Kd.int .i64) w A2 l2.length l2) (hc2 : l2.length ≤ c2) (h : seep_Floor.f a0_0 l0_1 l0_2 l0_3 l0_4 l0_5 l1 l2 = some (r1, r2)) :
  Calls Try.prog 39 #[.agg #[.int .i64 a0_0, .slice A0_1 l0_1.length c0_1, .slice A0_2 l0_2.length c0_2, .slice A0_3 l0_3.length c0_3, .slice A0_4 l0_4.length c0_4, .slice A0_5 l0_5.length c0_5], .slice A1 l1.length c1, .slice A2 l2.length c2] w fun e w' => e = .returned (.tuple #[.int .i64 r1, .int .i64 r2]) ∧ Below w.heap.size w w' := by
 have hp : floorV a0_0 l0_1 l0_2 l0_3 l0_4 l0_5 l1 l2 = some (r1, r2) := h
 clear h
 have hu27 := Try.underlying27
 have hmf : ∀ (fn : Fn) (first cap : Array Value) (w : World), (Instr.makeFunc fn first cap).run Try.prog w = .ok (.func fn first cap) w := fun _ _ _ _ => rfl
 have HB := qab.mk (Below.refl w.heap.size w)
 have m1 := Kd.C_max hr1
 have m2 := Kd.C_max hr2
 by_cases hL : 10 < l1.length ∨ 10 < l2.length
 ·
  obtain ⟨rfl, rfl⟩ : r1 = 0 ∧ r2 = 3 := by
   unfold floorV at hp
   rw [if_pos hL] at hp
   injection hp with hp
   injection hp with h1 h2
   exact ⟨h1.symm, h2.symm⟩
  clear hp hr0_1 hr0_2 hr0_3 hr0_4 hr0_5 hr1 hr2
  by_cases hL1 : 10 < l1.length
  ·
   have hb1 : decide ((10 : Int) < (l1.length : Int)) = true := by rw [decide_eq_true_eq]; omega
   clear hL
   go_enter_defers Try.func39, Try.ntmps39
   go_wp2_with (first | ((with_reducible refine qam (N := 3) rfl ?_); refine ze 3 #[.int .i64 a0_0, .slice A0_1 l0_1.length c0_1, .slice A0_2 l0_2.length c0_2, .slice A0_3 l0_3.length c0_3, .slice A0_4 l0_4.length c0_4, .slice A0_5 l0_5.length c0_5] 27 ?_; intro gb hg_gb w2 hbox hb; have BKgb := qab.mk hbox; have n_HB := qab.mk (qae HB.out hb); have GEgb : w.heap.size ≤ gb := (by rw [hg_gb]; exact HB.out.size); clear HB; have HB := n_HB; clear n_HB; obtain ⟨hfgb, hcgb_0, hcgb_1, hcgb_2, hcgb_3, hcgb_4, hcgb_5⟩ := qz6 BKgb.out; clear hbox hb hg_gb) | ((with_reducible refine qam (N := 6) rfl ?_); refine ze 6 #[.int .i64 0] 3 ?_; intro g6 hg_g6 w3 hbox hb; have BKg6 := qab.mk hbox; replace BKgb := qab.mk (qad BKgb.out hb); have n_HB := qab.mk (qae HB.out hb); have GEg6 : w.heap.size ≤ g6 := (by rw [hg_g6]; exact HB.out.size); clear HB; have HB := n_HB; clear n_HB; obtain ⟨hfg6, hcg6_0⟩ := qz1 BKg6.out; clear hbox hb hg_g6; obtain ⟨hfgb, hcgb_0, hcgb_1, hcgb_2, hcgb_3, hcgb_4, hcgb_5⟩ := qz6 BKgb.out) | ((with_reducible refine qam (N := 7) rfl ?_); refine ze 7 #[.int .i64 0] 30 ?_; intro g7 hg_g7 w4 hbox hb; have BKg7 := qab.mk hbox; have ne_g6_g7 : g6 ≠ g7 := (by rw [hg_g7]; exact Nat.ne_of_lt (blk_lt BKg6.out)); replace BKgb := qab.mk (qad BKgb.out hb); replace BKg6 := qab.mk (qad BKg6.out hb); have n_HB := qab.mk (qae HB.out hb); have GEg7 : w.heap.size ≤ g7 := (by rw [hg_g7]; exact HB.out.size); clear HB; have HB := n_HB; clear n_HB; obtain ⟨hfg7, hcg7_0⟩ := qz1 BKg7.out; clear hbox hb hg_g7; have ne_76 := ne_g6_g7.symm; obtain ⟨hfgb, hcgb_0, hcgb_1, hcgb_2, hcgb_3, hcgb_4, hcgb_5⟩ := qz6 BKgb.out; obtain ⟨hfg6, hcg6_0⟩ := qz1 BKg6.out))
   have B6 := blk_far (p := ⟨g7, 0, none⟩) (blk_set BKg6.out 0 (.int .i64 0)) (blk_ne BKg6.out BKg7.out (by decide)) (.int .i64 3)
   have B7 := blk_set (blk_far (p := ⟨g6, 0, none⟩) BKg7.out (blk_ne BKg7.out BKg6.out (by decide)) (.int .i64 0)) 0 (.int .i64 3)
   have B3 := qaj (j := 0) (v := .int .i64 3) (qaj (j := 0) (v := .int .i64 0) HB.out GEg6) GEg7
   try dsimp only
   generalize World.setCell _ ⟨g7, 0, none⟩ (.int .i64 3) = w7 at B6 B7 B3 ⊢
   have z6 : w7.cell? ⟨g6, 0, none⟩ = some (.int .i64 0) := qaa B6 0
   have z7 : w7.cell? ⟨g7, 0, none⟩ = some (.int .i64 3) := qaa B7 0
   skip
   simp [bodyPostD, Leaves, settle, results, Try.results39, go_sem, z6, z7]
   exact B3
  ·
   have hb1 : decide ((10 : Int) < (l1.length : Int)) = false := by rw [decide_eq_false_iff_not]; omega
   have hb2 : decide ((10 : Int) < (l2.length : Int)) = true := by rw [decide_eq_true_eq]; omega
   clear hL
   go_enter_defers Try.func39, Try.ntmps39
   go_wp2_with (first | ((with_reducible refine qam (N := 3) rfl ?_); refine ze 3 #[.int .i64 a0_0, .slice A0_1 l0_1.length c0_1, .slice A0_2 l0_2.length c0_2, .slice A0_3 l0_3.length c0_3, .slice A0_4 l0_4.length c0_4, .slice A0_5 l0_5.length c0_5] 27 ?_; intro gb hg_gb w2 hbox hb; have BKgb := qab.mk hbox; have n_HB := qab.mk (qae HB.out hb); have GEgb : w.heap.size ≤ gb := (by rw [hg_gb]; exact HB.out.size); clear HB; have HB := n_HB; clear n_HB; obtain ⟨hfgb, hcgb_0, hcgb_1, hcgb_2, hcgb_3, hcgb_4, hcgb_5⟩ := qz6 BKgb.out; clear hbox hb hg_gb) | ((with_reducible refine qam (N := 6) rfl ?_); refine ze 6 #[.int .i64 0] 3 ?_; intro g6 hg_g6 w3 hbox hb; have BKg6 := qab.mk hbox; replace BKgb := qab.mk (qad BKgb.out hb); have n_HB := qab.mk (qae HB.out hb); have GEg6 : w.heap.size ≤ g6 := (by rw [hg_g6]; exact HB.out.size); clear HB; have HB := n_HB; clear n_HB; obtain ⟨hfg6, hcg6_0⟩ := qz1 BKg6.out; clear hbox hb hg_g6; obtain ⟨hfgb, hcgb_0, hcgb_1, hcgb_2, hcgb_3, hcgb_4, hcgb_5⟩ := qz6 BKgb.out) | ((with_reducible refine qam (N := 7) rfl ?_); refine ze 7 #[.int .i64 0] 30 ?_; intro g7 hg_g7 w4 hbox hb; have BKg7 := qab.mk hbox; have ne_g6_g7 : g6 ≠ g7 := (by rw [hg_g7]; exact Nat.ne_of_lt (blk_lt BKg6.out)); replace BKgb := qab.mk (qad BKgb.out hb); replace BKg6 := qab.mk (qad BKg6.out hb); have n_HB := qab.mk (qae HB.out hb); have GEg7 : w.heap.size ≤ g7 := (by rw [hg_g7]; exact HB.out.size); clear HB; have HB := n_HB; clear n_HB; obtain ⟨hfg7, hcg7_0⟩ := qz1 BKg7.out; clear hbox hb hg_g7; have ne_76 := ne_g6_g7.symm; obtain ⟨hfgb, hcgb_0, hcgb_1, hcgb_2, hcgb_3, hcgb_4, hcgb_5⟩ := qz6 BKgb.out; obtain ⟨hfg6, hcg6_0⟩ := qz1 BKg6.out))
   have B6 := blk_far (p := ⟨g7, 0, none⟩) (blk_set BKg6.out 0 (.int .i64 0)) (blk_ne BKg6.out BKg7.out (by decide)) (.int .i64 3)
   have B7 := blk_set (blk_far (p := ⟨g6, 0, none⟩) BKg7.out (blk_ne BKg7.out BKg6.out (by decide)) (.int .i64 0)) 0 (.int .i64 3)
   have B3 := qaj (j := 0) (v := .int .i64 3) (qaj (j := 0) (v := .int .i64 0) HB.out GEg6) GEg7
   try dsimp only
   generalize World.setCell _ ⟨g7, 0, none⟩ (.int .i64 3) = w7 at B6 B7 B3 ⊢
   have z6 : w7.cell? ⟨g6, 0, none⟩ = some (.int .i64 0) := qaa B6 0
   have z7 : w7.cell? ⟨g7, 0, none⟩ = some (.int .i64 3) := qaa B7 0
   skip
   simp [bodyPostD, Leaves, settle, results, Try.results39, go_sem, z6, z7]
   exact B3
 ·
  have hL1 : ¬ 10 < l1.length := fun h => hL (.inl h)
  have hL2 : ¬ 10 < l2.length := fun h => hL (.inr h)
  have hb1 : decide ((10 : Int) < (l1.length : Int)) = false := by rw [decide_eq_false_iff_not]; omega
  have hb2 : decide ((10 : Int) < (l2.length : Int)) = false := by rw [decide_eq_false_iff_not]; omega
  unfold floorV at hp
  rw [if_neg hL] at hp
  cases hg : givenB a0_0 l0_1 l0_2 l0_3 l0_4 l0_5 [] with
  | false =>
   obtain ⟨rfl, rfl⟩ : r1 = 0 ∧ r2 = 2 := by
    rw [hg, if_neg (by decide)] at hp
    injection hp with hp
    injection hp with h1 h2
    exact ⟨h1.symm, h2.symm⟩
   have HGIV : qab (∀ W, Below w.heap.size w W → Calls Try.prog 54 #[.agg #[.int .i64 a0_0, .slice A0_1 l0_1.length c0_1, .slice A0_2 l0_2.length c0_2, .slice A0_3 l0_3.length c0_3, .slice A0_4 l0_4.length c0_4, .slice A0_5 l0_5.length c0_5], .slice none 0 0] W fun e w' => e = .returned (.tuple #[.pointer none, .bool false]) ∧ Below W.heap.size W w') := ⟨fun W hW => given_false a0_0 A0_1 c0_1 l0_1 A0_2 c0_2 l0_2 A0_3 c0_3 l0_3 A0_4 c0_4 l0_4 A0_5 c0_5 l0_5 none 0 [] W (Kd.qai hr0_1 hW) hc0_1 (Kd.qai hr0_2 hW) hc0_2 (Kd.qai hr0_3 hW) hc0_3 (Kd.qai hr0_4 hW) hc0_4 (Kd.qai hr0_5 hW) hc0_5 (C_nil W) (Nat.le_refl _) hg⟩
   clear hp hg hL hr0_1 hr0_2 hr0_3 hr0_4 hr0_5 hr1 hr2
   go_enter_defers Try.func39, Try.ntmps39
   go_wp2_with (first | ((with_reducible refine qam (N := 3) rfl ?_); refine ze 3 #[.int .i64 a0_0, .slice A0_1 l0_1.length c0_1, .slice A0_2 l0_2.length c0_2, .slice A0_3 l0_3.length c0_3, .slice A0_4 l0_4.length c0_4, .slice A0_5 l0_5.length c0_5] 27 ?_; intro gb hg_gb w2 hbox hb; have BKgb := qab.mk hbox; have n_HB := qab.mk (qae HB.out hb); have GEgb : w.heap.size ≤ gb := (by rw [hg_gb]; exact HB.out.size); clear HB; have HB := n_HB; clear n_HB; obtain ⟨hfgb, hcgb_0, hcgb_1, hcgb_2, hcgb_3, hcgb_4, hcgb_5⟩ := qz6 BKgb.out; clear hbox hb hg_gb) | ((with_reducible refine qam (N := 6) rfl ?_); refine ze 6 #[.int .i64 0] 3 ?_; intro g6 hg_g6 w3 hbox hb; have BKg6 := qab.mk hbox; replace BKgb := qab.mk (qad BKgb.out hb); have n_HB := qab.mk (qae HB.out hb); have GEg6 : w.heap.size ≤ g6 := (by rw [hg_g6]; exact HB.out.size); clear HB; have HB := n_HB; clear n_HB; obtain ⟨hfg6, hcg6_0⟩ := qz1 BKg6.out; clear hbox hb hg_g6; obtain ⟨hfgb, hcgb_0, hcgb_1, hcgb_2, hcgb_3, hcgb_4, hcgb_5⟩ := qz6 BKgb.out) | ((with_reducible refine qam (N := 7) rfl ?_); refine ze 7 #[.int .i64 0] 30 ?_; intro g7 hg_g7 w4 hbox hb; have BKg7 := qab.mk hbox; have ne_g6_g7 : g6 ≠ g7 := (by rw [hg_g7]; exact Nat.ne_of_lt (blk_lt BKg6.out)); replace BKgb := qab.mk (qad BKgb.out hb); replace BKg6 := qab.mk (qad BKg6.out hb); have n_HB := qab.mk (qae HB.out hb); have GEg7 : w.heap.size ≤ g7 := (by rw [hg_g7]; exact HB.out.size); clear HB; have HB := n_HB; clear n_HB; obtain ⟨hfg7, hcg7_0⟩ := qz1 BKg7.out; clear hbox hb hg_g7; have ne_76 := ne_g6_g7.symm; obtain ⟨hfgb, hcgb_0, hcgb_1, hcgb_2, hcgb_3, hcgb_4, hcgb_5⟩ := qz6 BKgb.out; obtain ⟨hfg6, hcg6_0⟩ := qz1 BKg6.out) | (go_at_call 54; (with_reducible refine (HGIV.out _ HB.out).mono ?_); rintro e wn ⟨rfl, hb⟩; replace BKgb := qab.mk (qad BKgb.out hb); replace BKg6 := qab.mk (qad BKg6.out hb); replace BKg7 := qab.mk (qad BKg7.out hb); replace HB := qab.mk (qae HB.out hb); clear hb; obtain ⟨hfgb, hcgb_0, hcgb_1, hcgb_2, hcgb_3, hcgb_4, hcgb_5⟩ := qz6 BKgb.out; obtain ⟨hfg6, hcg6_0⟩ := qz1 BKg6.out; obtain ⟨hfg7, hcg7_0⟩ := qz1 BKg7.out))
   have B6 := blk_far (p := ⟨g7, 0, none⟩) (blk_set BKg6.out 0 (.int .i64 0)) (blk_ne BKg6.out BKg7.out (by decide)) (.int .i64 2)
   have B7 := blk_set (blk_far (p := ⟨g6, 0, none⟩) BKg7.out (blk_ne BKg7.out BKg6.out (by decide)) (.int .i64 0)) 0 (.int .i64 2)
   have B3 := qaj (j := 0) (v := .int .i64 2) (qaj (j := 0) (v := .int .i64 0) HB.out GEg6) GEg7
   try dsimp only
   generalize World.setCell _ ⟨g7, 0, none⟩ (.int .i64 2) = w7 at B6 B7 B3 ⊢
   have z6 : w7.cell? ⟨g6, 0, none⟩ = some (.int .i64 0) := qaa B6 0
   have z7 : w7.cell? ⟨g7, 0, none⟩ = some (.int .i64 2) := qaa B7 0
   skip
   simp [bodyPostD, Leaves, settle, results, Try.results39, go_sem, z6, z7]
   exact B3
  | true =>
   have HV := qab.mk (valid_facts (given_valid hg))
   have hn1 := HV.out.n1
   have hn4 := HV.out.n4
   rw [hg, if_pos rfl] at hp
   have HGIV : qab (∀ W, Below w.heap.size w W → Calls Try.prog 54 #[.agg #[.int .i64 a0_0, .slice A0_1 l0_1.length c0_1, .slice A0_2 l0_2.length c0_2, .slice A0_3 l0_3.length c0_3, .slice A0_4 l0_4.length c0_4, .slice A0_5 l0_5.length c0_5], .slice none 0 0] W fun e w' => ∃ g, e = .returned (.tuple #[.pointer (some ⟨g, 0, none⟩), .bool true]) ∧ W.heap.size ≤ g ∧ w'.heap[g]? = some (.cells #[.int .i64 a0_0, .slice A0_1 l0_1.length c0_1, .slice A0_2 l0_2.length c0_2, .slice A0_3 l0_3.length c0_3, .slice A0_4 l0_4.length c0_4, .slice A0_5 l0_5.length c0_5, .int .i64 0] 123 (0, 0)) ∧ Below W.heap.size W w') := ⟨fun W hW => given_true a0_0 A0_1 c0_1 l0_1 A0_2 c0_2 l0_2 A0_3 c0_3 l0_3 A0_4 c0_4 l0_4 A0_5 c0_5 l0_5 none 0 [] W (Kd.qai hr0_1 hW) hc0_1 (Kd.qai hr0_2 hW) hc0_2 (Kd.qai hr0_3 hW) hc0_3 (Kd.qai hr0_4 hW) hc0_4 (Kd.qai hr0_5 hW) hc0_5 (C_nil W) (Nat.le_refl _) hg⟩
   by_cases hl : l1.length = l2.length
   ·
    rw [if_pos hl] at hp
    have hlb : ((l1.length : Int) != (l2.length : Int)) = false := by simp; omega
    obtain ⟨bp, hbp⟩ : ∃ b, b = badP l2 := ⟨_, rfl⟩
    have HPR : qab (∀ W, Below w.heap.size w W → Calls Try.prog 74 #[.slice A2 l2.length c2, .func (.func 75) #[] #[]] W fun e w' => e = .returned (.bool bp) ∧ Below W.heap.size W w') := ⟨fun W hW => by
     rw [hbp]
     exact has75 l2 A2 c2 (fun n => !inB n 0 1000000) W (Kd.qai hr2 hW) (fun i W2 h0 h1 hW2 => (seep_Floor_1.calls (rd l2 i) _ W2 (by unfold seep_Floor_1.f; rw [seep_in_eq]; rfl)).mono fun e w' ⟨h1, h2⟩ => ⟨h1, h2.below⟩)⟩
    obtain ⟨br, hbr⟩ : ∃ b, b = badR l0_1.length l1 := ⟨_, rfl⟩
    have HRO : qab (∀ gb W, Below w.heap.size w W → W.heap[gb]? = some (.cells #[.int .i64 a0_0, .slice A0_1 l0_1.length c0_1, .slice A0_2 l0_2.length c0_2, .slice A0_3 l0_3.length c0_3, .slice A0_4 l0_4.length c0_4, .slice A0_5 l0_5.length c0_5] 27 (0, 0)) → Calls Try.prog 76 #[.slice A1 l1.length c1, .func (.func 77) #[] #[.pointer (some ⟨gb, 0, none⟩)]] W fun e w' => e = .returned (.bool br) ∧ Below W.heap.size W w') := ⟨fun gb W hW hb => by
     rw [hbr]
     exact hasRows _ l1 A1 c1 (fun row => row.any fun x => !inB x 0 ((l0_1.length : Int) - 1)) W (Kd.qai hr1 hW) (fun i A0 c0 W2 hi hW2 hC hcc => floor2_calls gb (rd_L4 l1 i) A0 c0 l0_1.length A0_1 c0_1 _ _ _ _ _ W2 (by omega) (Kd.qai hC hW2) (qad hb hW2))⟩
    rw [← hbp, ← hbr] at hp
    have HBP := qab.mk hbp
    have HBR := qab.mk hbr
    have HL := qab.mk hl
    clear hbp hbr hl hL
    cases bp with
    | true =>
     obtain ⟨rfl, rfl⟩ : r1 = 0 ∧ r2 = 2 := by
      rw [if_pos rfl] at hp
      injection hp with hp
      injection hp with h1 h2
      exact ⟨h1.symm, h2.symm⟩
     clear hp hg hr0_1 hr0_2 hr0_3 hr0_4 hr0_5 hr1 hr2
     go_enter_defers Try.func39, Try.ntmps39
     go_wp2_with (first | ((with_reducible refine qam (N := 3) rfl ?_); refine ze 3 #[.int .i64 a0_0, .slice A0_1 l0_1.length c0_1, .slice A0_2 l0_2.length c0_2, .slice A0_3 l0_3.length c0_3, .slice A0_4 l0_4.length c0_4, .slice A0_5 l0_5.length c0_5] 27 ?_; intro gb hg_gb w2 hbox hb; have BKgb := qab.mk hbox; have n_HB := qab.mk (qae HB.out hb); have GEgb : w.heap.size ≤ gb := (by rw [hg_gb]; exact HB.out.size); clear HB; have HB := n_HB; clear n_HB; obtain ⟨hfgb, hcgb_0, hcgb_1, hcgb_2, hcgb_3, hcgb_4, hcgb_5⟩ := qz6 BKgb.out; clear hbox hb hg_gb) | ((with_reducible refine qam (N := 6) rfl ?_); refine ze 6 #[.int .i64 0] 3 ?_; intro g6 hg_g6 w3 hbox hb; have BKg6 := qab.mk hbox; replace BKgb := qab.mk (qad BKgb.out hb); have n_HB := qab.mk (qae HB.out hb); have GEg6 : w.heap.size ≤ g6 := (by rw [hg_g6]; exact HB.out.size); clear HB; have HB := n_HB; clear n_HB; obtain ⟨hfg6, hcg6_0⟩ := qz1 BKg6.out; clear hbox hb hg_g6; obtain ⟨hfgb, hcgb_0, hcgb_1, hcgb_2, hcgb_3, hcgb_4, hcgb_5⟩ := qz6 BKgb.out) | ((with_reducible refine qam (N := 7) rfl ?_); refine ze 7 #[.int .i64 0] 30 ?_; intro g7 hg_g7 w4 hbox hb; have BKg7 := qab.mk hbox; have ne_g6_g7 : g6 ≠ g7 := (by rw [hg_g7]; exact Nat.ne_of_lt (blk_lt BKg6.out)); replace BKgb := qab.mk (qad BKgb.out hb); replace BKg6 := qab.mk (qad BKg6.out hb); have n_HB := qab.mk (qae HB.out hb); have GEg7 : w.heap.size ≤ g7 := (by rw [hg_g7]; exact HB.out.size); clear HB; have HB := n_HB; clear n_HB; obtain ⟨hfg7, hcg7_0⟩ := qz1 BKg7.out; clear hbox hb hg_g7; have ne_76 := ne_g6_g7.symm; obtain ⟨hfgb, hcgb_0, hcgb_1, hcgb_2, hcgb_3, hcgb_4, hcgb_5⟩ := qz6 BKgb.out; obtain ⟨hfg6, hcg6_0⟩ := qz1 BKg6.out) | (go_at_call 54; (with_reducible refine (HGIV.out _ HB.out).mono ?_); rintro e wn ⟨gd, rfl, GEgd, hbk, hb⟩; have BKgd := qab.mk hbk; clear hbk; replace BKgb := qab.mk (qad BKgb.out hb); replace BKg6 := qab.mk (qad BKg6.out hb); replace BKg7 := qab.mk (qad BKg7.out hb); replace HB := qab.mk (qae HB.out hb); clear hb; obtain ⟨hfgb, hcgb_0, hcgb_1, hcgb_2, hcgb_3, hcgb_4, hcgb_5⟩ := qz6 BKgb.out; obtain ⟨hfg6, hcg6_0⟩ := qz1 BKg6.out; obtain ⟨hfg7, hcg7_0⟩ := qz1 BKg7.out) | (go_at_call 74; (with_reducible refine (HPR.out _ HB.out).mono ?_); rintro e wp ⟨rfl, hb⟩; replace BKgb := qab.mk (qad BKgb.out hb); replace BKg6 := qab.mk (qad BKg6.out hb); replace BKg7 := qab.mk (qad BKg7.out hb); replace BKgd := qab.mk (qad BKgd.out hb); replace HB := qab.mk (qae HB.out hb); clear hb; obtain ⟨hfgb, hcgb_0, hcgb_1, hcgb_2, hcgb_3, hcgb_4, hcgb_5⟩ := qz6 BKgb.out; obtain ⟨hfg6, hcg6_0⟩ := qz1 BKg6.out; obtain ⟨hfg7, hcg7_0⟩ := qz1 BKg7.out))
     have B6 := blk_far (p := ⟨g7, 0, none⟩) (blk_set BKg6.out 0 (.int .i64 0)) (blk_ne BKg6.out BKg7.out (by decide)) (.int .i64 2)
     have B7 := blk_set (blk_far (p := ⟨g6, 0, none⟩) BKg7.out (blk_ne BKg7.out BKg6.out (by decide)) (.int .i64 0)) 0 (.int .i64 2)
     have B3 := qaj (j := 0) (v := .int .i64 2) (qaj (j := 0) (v := .int .i64 0) HB.out GEg6) GEg7
     try dsimp only
     generalize World.setCell _ ⟨g7, 0, none⟩ (.int .i64 2) = w7 at B6 B7 B3 ⊢
     have z6 : w7.cell? ⟨g6, 0, none⟩ = some (.int .i64 0) := qaa B6 0
     have z7 : w7.cell? ⟨g7, 0, none⟩ = some (.int .i64 2) := qaa B7 0
     skip
     simp [bodyPostD, Leaves, settle, results, Try.results39, go_sem, z6, z7]
     exact B3
    | false =>
     rw [if_neg (by decide)] at hp
     cases br with
     | true =>
      obtain ⟨rfl, rfl⟩ : r1 = 0 ∧ r2 = 2 := by
       rw [if_pos rfl] at hp
       injection hp with hp
       injection hp with h1 h2
       exact ⟨h1.symm, h2.symm⟩
      clear hp hg hr0_1 hr0_2 hr0_3 hr0_4 hr0_5 hr1 hr2
      go_enter_defers Try.func39, Try.ntmps39
      go_wp2_with (first | ((with_reducible refine qam (N := 3) rfl ?_); refine ze 3 #[.int .i64 a0_0, .slice A0_1 l0_1.length c0_1, .slice A0_2 l0_2.length c0_2, .slice A0_3 l0_3.length c0_3, .slice A0_4 l0_4.length c0_4, .slice A0_5 l0_5.length c0_5] 27 ?_; intro gb hg_gb w2 hbox hb; have BKgb := qab.mk hbox; have n_HB := qab.mk (qae HB.out hb); have GEgb : w.heap.size ≤ gb := (by rw [hg_gb]; exact HB.out.size); clear HB; have HB := n_HB; clear n_HB; obtain ⟨hfgb, hcgb_0, hcgb_1, hcgb_2, hcgb_3, hcgb_4, hcgb_5⟩ := qz6 BKgb.out; clear hbox hb hg_gb) | ((with_reducible refine qam (N := 6) rfl ?_); refine ze 6 #[.int .i64 0] 3 ?_; intro g6 hg_g6 w3 hbox hb; have BKg6 := qab.mk hbox; replace BKgb := qab.mk (qad BKgb.out hb); have n_HB := qab.mk (qae HB.out hb); have GEg6 : w.heap.size ≤ g6 := (by rw [hg_g6]; exact HB.out.size); clear HB; have HB := n_HB; clear n_HB; obtain ⟨hfg6, hcg6_0⟩ := qz1 BKg6.out; clear hbox hb hg_g6; obtain ⟨hfgb, hcgb_0, hcgb_1, hcgb_2, hcgb_3, hcgb_4, hcgb_5⟩ := qz6 BKgb.out) | ((with_reducible refine qam (N := 7) rfl ?_); refine ze 7 #[.int .i64 0] 30 ?_; intro g7 hg_g7 w4 hbox hb; have BKg7 := qab.mk hbox; have ne_g6_g7 : g6 ≠ g7 := (by rw [hg_g7]; exact Nat.ne_of_lt (blk_lt BKg6.out)); replace BKgb := qab.mk (qad BKgb.out hb); replace BKg6 := qab.mk (qad BKg6.out hb); have n_HB := qab.mk (qae HB.out hb); have GEg7 : w.heap.size ≤ g7 := (by rw [hg_g7]; exact HB.out.size); clear HB; have HB := n_HB; clear n_HB; obtain ⟨hfg7, hcg7_0⟩ := qz1 BKg7.out; clear hbox hb hg_g7; have ne_76 := ne_g6_g7.symm; obtain ⟨hfgb, hcgb_0, hcgb_1, hcgb_2, hcgb_3, hcgb_4, hcgb_5⟩ := qz6 BKgb.out; obtain ⟨hfg6, hcg6_0⟩ := qz1 BKg6.out) | (go_at_call 54; (with_reducible refine (HGIV.out _ HB.out).mono ?_); rintro e wn ⟨gd, rfl, GEgd, hbk, hb⟩; have BKgd := qab.mk hbk; clear hbk; replace BKgb := qab.mk (qad BKgb.out hb); replace BKg6 := qab.mk (qad BKg6.out hb); replace BKg7 := qab.mk (qad BKg7.out hb); replace HB := qab.mk (qae HB.out hb); clear hb; obtain ⟨hfgb, hcgb_0, hcgb_1, hcgb_2, hcgb_3, hcgb_4, hcgb_5⟩ := qz6 BKgb.out; obtain ⟨hfg6, hcg6_0⟩ := qz1 BKg6.out; obtain ⟨hfg7, hcg7_0⟩ := qz1 BKg7.out) | (go_at_call 74; (with_reducible refine (HPR.out _ HB.out).mono ?_); rintro e wp ⟨rfl, hb⟩; replace BKgb := qab.mk (qad BKgb.out hb); replace BKg6 := qab.mk (qad BKg6.out hb); replace BKg7 := qab.mk (qad BKg7.out hb); replace BKgd := qab.mk (qad BKgd.out hb); replace HB := qab.mk (qae HB.out hb); clear hb; obtain ⟨hfgb, hcgb_0, hcgb_1, hcgb_2, hcgb_3, hcgb_4, hcgb_5⟩ := qz6 BKgb.out; obtain ⟨hfg6, hcg6_0⟩ := qz1 BKg6.out; obtain ⟨hfg7, hcg7_0⟩ := qz1 BKg7.out) | (go_at_call 76; (with_reducible refine (HRO.out gb _ HB.out BKgb.out).mono ?_); rintro e wq ⟨rfl, hb⟩; replace BKgb := qab.mk (qad BKgb.out hb); replace BKg6 := qab.mk (qad BKg6.out hb); replace BKg7 := qab.mk (qad BKg7.out hb); replace BKgd := qab.mk (qad BKgd.out hb); replace HB := qab.mk (qae HB.out hb); clear hb; obtain ⟨hfgb, hcgb_0, hcgb_1, hcgb_2, hcgb_3, hcgb_4, hcgb_5⟩ := qz6 BKgb.out; obtain ⟨hfg6, hcg6_0⟩ := qz1 BKg6.out; obtain ⟨hfg7, hcg7_0⟩ := qz1 BKg7.out))
      have B6 := blk_far (p := ⟨g7, 0, none⟩) (blk_set BKg6.out 0 (.int .i64 0)) (blk_ne BKg6.out BKg7.out (by decide)) (.int .i64 2)
      have B7 := blk_set (blk_far (p := ⟨g6, 0, none⟩) BKg7.out (blk_ne BKg7.out BKg6.out (by decide)) (.int .i64 0)) 0 (.int .i64 2)
      have B3 := qaj (j := 0) (v := .int .i64 2) (qaj (j := 0) (v := .int .i64 0) HB.out GEg6) GEg7
      try dsimp only
      generalize World.setCell _ ⟨g7, 0, none⟩ (.int .i64 2) = w7 at B6 B7 B3 ⊢
      have z6 : w7.cell? ⟨g6, 0, none⟩ = some (.int .i64 0) := qaa B6 0
      have z7 : w7.cell? ⟨g7, 0, none⟩ = some (.int .i64 2) := qaa B7 0
      skip
      simp [bodyPostD, Leaves, settle, results, Try.results39, go_sem, z6, z7]
      exact B3
     | false =>
      rw [if_neg (by decide)] at hp
      have hall : (l1.all fun l => decide (l.length ≤ 1000)) = true := by
       by_cases h : (l1.all fun l => decide (l.length ≤ 1000)) = true
       ·
        exact h
       ·
        rw [if_neg h] at hp; cases hp
      rw [if_pos hall] at hp
      have hpr : ∀ k : Nat, k < l2.length → 0 ≤ rd l2 k ∧ rd l2 k ≤ 1000000 := fun k hk => by
       have h1 := HBP.out.symm
       unfold badP at h1
       rw [List.any_eq_false] at h1
       have h2 := h1 (l2[k]) (List.getElem_mem hk)
       have e : rd l2 (k : Int) = l2[k] := by simp [rd, hk]
       rw [e]
       unfold inB at h2
       simp only [Bool.not_eq_true, Bool.not_eq_false', Bool.and_eq_true, decide_eq_true_eq] at h2
       exact h2
      have hre : ∀ n k : Nat, n < l1.length → k < (rd_L4 l1 n).length → 0 ≤ rd (rd_L4 l1 n) k ∧ rd (rd_L4 l1 n) k < l0_1.length := fun n k hn hk => by
       have h1 := HBR.out.symm
       unfold badR at h1
       rw [List.any_eq_false] at h1
       have e1 : rd_L4 l1 n = l1[n] := by simp [rd_L4, hn]
       rw [e1] at hk ⊢
       have h2 := h1 (l1[n]) (List.getElem_mem hn)
       rw [Bool.not_eq_true, List.any_eq_false] at h2
       have h3 := h2 (l1[n][k]) (List.getElem_mem hk)
       have e2 : rd l1[n] (k : Int) = l1[n][k] := by simp [rd, hk]
       rw [e2]
       unfold inB at h3
       simp only [Bool.not_eq_true, Bool.not_eq_false', Bool.and_eq_true, decide_eq_true_eq] at h3
       omega
      have hll : ∀ n : Nat, n < l1.length → (rd_L4 l1 n).length ≤ 1000 := fun n hn => by
       have h1 := List.all_eq_true.1 hall (l1[n]) (List.getElem_mem hn)
       have e1 : rd_L4 l1 n = l1[n] := by simp [rd_L4, hn]
       rw [e1]
       simpa using h1
      obtain ⟨fr, hfr⟩ : ∃ f, f = fairR 0 l0_1 l0_2 l0_3 l0_4 l1 l2 := ⟨_, rfl⟩
      rw [← hfr] at hp
      have HFA : qab (∀ gd W, Below w.heap.size w W → W.heap[gd]? = some (.cells #[.int .i64 a0_0, .slice A0_1 l0_1.length c0_1, .slice A0_2 l0_2.length c0_2, .slice A0_3 l0_3.length c0_3, .slice A0_4 l0_4.length c0_4, .slice A0_5 l0_5.length c0_5, .int .i64 0] 123 (0, 0)) → Calls Try.prog 80 #[.pointer (some ⟨gd, 0, none⟩), .slice A1 l1.length c1, .slice A2 l2.length c2] W fun e w' => FairPost fr e ∧ Below W.heap.size W w') := ⟨fun gd W hW hd => by
       rw [hfr]
       exact fair_calls gd _ _ A0_1 c0_1 l0_1 A0_2 c0_2 l0_2 A0_3 c0_3 l0_3 A0_4 c0_4 l0_4 0 A1 c1 l1 A2 c2 l2 W (Kd.qai hr0_1 hW) (Kd.qai hr0_2 hW) hc0_2 (Kd.qai hr0_3 hW) hc0_3 (Kd.qai hr0_4 hW) (by omega) hn1 (Kd.qai hr1 hW) (Kd.qai hr2 hW) (HL.out).symm (by omega) hll hre (fun k hk => hpr k (by have := HL.out; omega)) hd⟩
      have HSU : qab (∀ W, Below w.heap.size w W → Calls Try.prog 81 #[.slice A2 l2.length c2] W fun e w' => e = .returned (.int .i64 l2.sum) ∧ Below W.heap.size W w') := ⟨fun W hW => sumAll_calls A2 c2 l2 W (Kd.qai hr2 hW) hc2 hpr (by omega)⟩
      have HP := qab.mk hp
      clear hp hg hpr hre hll hall hfr hr0_1 hr0_2 hr0_3 hr0_4 hr0_5 hr1 hr2
      cases fr with
      | none =>
       obtain ⟨rfl, rfl⟩ : r1 = l2.sum ∧ r2 = 0 := by
        have hp := HP.out
        injection hp with hp
        injection hp with h1 h2
        exact ⟨h1.symm, h2.symm⟩
       obtain ⟨sm, hsm⟩ : ∃ s, s = l2.sum := ⟨_, rfl⟩
       rw [← hsm] at HSU ⊢
       clear hsm HP
       go_enter_defers Try.func39, Try.ntmps39
       go_wp2_with (first | ((with_reducible refine qam (N := 3) rfl ?_); refine ze 3 #[.int .i64 a0_0, .slice A0_1 l0_1.length c0_1, .slice A0_2 l0_2.length c0_2, .slice A0_3 l0_3.length c0_3, .slice A0_4 l0_4.length c0_4, .slice A0_5 l0_5.length c0_5] 27 ?_; intro gb hg_gb w2 hbox hb; have BKgb := qab.mk hbox; have n_HB := qab.mk (qae HB.out hb); have GEgb : w.heap.size ≤ gb := (by rw [hg_gb]; exact HB.out.size); clear HB; have HB := n_HB; clear n_HB; obtain ⟨hfgb, hcgb_0, hcgb_1, hcgb_2, hcgb_3, hcgb_4, hcgb_5⟩ := qz6 BKgb.out; clear hbox hb hg_gb) | ((with_reducible refine qam (N := 6) rfl ?_); refine ze 6 #[.int .i64 0] 3 ?_; intro g6 hg_g6 w3 hbox hb; have BKg6 := qab.mk hbox; replace BKgb := qab.mk (qad BKgb.out hb); have n_HB := qab.mk (qae HB.out hb); have GEg6 : w.heap.size ≤ g6 := (by rw [hg_g6]; exact HB.out.size); clear HB; have HB := n_HB; clear n_HB; obtain ⟨hfg6, hcg6_0⟩ := qz1 BKg6.out; clear hbox hb hg_g6; obtain ⟨hfgb, hcgb_0, hcgb_1, hcgb_2, hcgb_3, hcgb_4, hcgb_5⟩ := qz6 BKgb.out) | ((with_reducible refine qam (N := 7) rfl ?_); refine ze 7 #[.int .i64 0] 30 ?_; intro g7 hg_g7 w4 hbox hb; have BKg7 := qab.mk hbox; have ne_g6_g7 : g6 ≠ g7 := (by rw [hg_g7]; exact Nat.ne_of_lt (blk_lt BKg6.out)); replace BKgb := qab.mk (qad BKgb.out hb); replace BKg6 := qab.mk (qad BKg6.out hb); have n_HB := qab.mk (qae HB.out hb); have GEg7 : w.heap.size ≤ g7 := (by rw [hg_g7]; exact HB.out.size); clear HB; have HB := n_HB; clear n_HB; obtain ⟨hfg7, hcg7_0⟩ := qz1 BKg7.out; clear hbox hb hg_g7; have ne_76 := ne_g6_g7.symm; obtain ⟨hfgb, hcgb_0, hcgb_1, hcgb_2, hcgb_3, hcgb_4, hcgb_5⟩ := qz6 BKgb.out; obtain ⟨hfg6, hcg6_0⟩ := qz1 BKg6.out) | (go_at_call 54; (with_reducible refine (HGIV.out _ HB.out).mono ?_); rintro e wn ⟨gd, rfl, GEgd, hbk, hb⟩; have BKgd := qab.mk hbk; clear hbk; replace BKgb := qab.mk (qad BKgb.out hb); replace BKg6 := qab.mk (qad BKg6.out hb); replace BKg7 := qab.mk (qad BKg7.out hb); replace HB := qab.mk (qae HB.out hb); clear hb; obtain ⟨hfgb, hcgb_0, hcgb_1, hcgb_2, hcgb_3, hcgb_4, hcgb_5⟩ := qz6 BKgb.out; obtain ⟨hfg6, hcg6_0⟩ := qz1 BKg6.out; obtain ⟨hfg7, hcg7_0⟩ := qz1 BKg7.out) | (go_at_call 74; (with_reducible refine (HPR.out _ HB.out).mono ?_); rintro e wp ⟨rfl, hb⟩; replace BKgb := qab.mk (qad BKgb.out hb); replace BKg6 := qab.mk (qad BKg6.out hb); replace BKg7 := qab.mk (qad BKg7.out hb); replace BKgd := qab.mk (qad BKgd.out hb); replace HB := qab.mk (qae HB.out hb); clear hb; obtain ⟨hfgb, hcgb_0, hcgb_1, hcgb_2, hcgb_3, hcgb_4, hcgb_5⟩ := qz6 BKgb.out; obtain ⟨hfg6, hcg6_0⟩ := qz1 BKg6.out; obtain ⟨hfg7, hcg7_0⟩ := qz1 BKg7.out) | (go_at_call 76; (with_reducible refine (HRO.out gb _ HB.out BKgb.out).mono ?_); rintro e wq ⟨rfl, hb⟩; replace BKgb := qab.mk (qad BKgb.out hb); replace BKg6 := qab.mk (qad BKg6.out hb); replace BKg7 := qab.mk (qad BKg7.out hb); replace BKgd := qab.mk (qad BKgd.out hb); replace HB := qab.mk (qae HB.out hb); clear hb; obtain ⟨hfgb, hcgb_0, hcgb_1, hcgb_2, hcgb_3, hcgb_4, hcgb_5⟩ := qz6 BKgb.out; obtain ⟨hfg6, hcg6_0⟩ := qz1 BKg6.out; obtain ⟨hfg7, hcg7_0⟩ := qz1 BKg7.out) | (go_at_call 80; (with_reducible refine (HFA.out gd _ HB.out BKgd.out).mono ?_); rintro e wf ⟨he, hb⟩; have he2 : e = .returned (.tuple #[]) := he; subst he2; clear he; skip; have n_6 := qab.mk (qad BKg6.out hb); have n_7 := qab.mk (qad BKg7.out hb); clear BKg6 BKg7; have BKg6 := n_6; have BKg7 := n_7; clear n_6 n_7; replace HB := qab.mk (qae HB.out hb); clear hb; obtain ⟨hfg6, hcg6_0⟩ := qz1 BKg6.out; obtain ⟨hfg7, hcg7_0⟩ := qz1 BKg7.out) | (go_at_call 81; (with_reducible refine (HSU.out _ HB.out).mono ?_); rintro e wz ⟨rfl, hb⟩; have n_6 := qab.mk (qad BKg6.out hb); have n_7 := qab.mk (qad BKg7.out hb); clear BKg6 BKg7; have BKg6 := n_6; have BKg7 := n_7; clear n_6 n_7; replace HB := qab.mk (qae HB.out hb); clear hb; obtain ⟨hfg6, hcg6_0⟩ := qz1 BKg6.out; obtain ⟨hfg7, hcg7_0⟩ := qz1 BKg7.out))
       simp only [bodyPostD]
       refine leaves_cons (f := 79) (args := #[.pointer (some ⟨g6, 0, none⟩), .pointer (some ⟨g7, 0, none⟩)]) (by simp) (by simp [go_sem]) ?_
       refine (floor3_idle ⟨g6, 0, none⟩ ⟨g7, 0, none⟩ _).mono ?_
       rintro e u' w'' ⟨rfl, rfl, rfl⟩
       have B6 := blk_far (p := ⟨g7, 0, none⟩) (blk_set BKg6.out 0 (.int .i64 sm)) (blk_ne BKg6.out BKg7.out (by decide)) (.int .i64 0)
       have B7 := blk_set (blk_far (p := ⟨g6, 0, none⟩) BKg7.out (blk_ne BKg7.out BKg6.out (by decide)) (.int .i64 sm)) 0 (.int .i64 0)
       have B3 := qaj (j := 0) (v := .int .i64 0) (qaj (j := 0) (v := .int .i64 sm) HB.out GEg6) GEg7
       try dsimp only
       generalize World.setCell _ ⟨g7, 0, none⟩ (.int .i64 0) = w7 at B6 B7 B3 ⊢
       have z6 : w7.cell? ⟨g6, 0, none⟩ = some (.int .i64 sm) := qaa B6 0
       have z7 : w7.cell? ⟨g7, 0, none⟩ = some (.int .i64 0) := qaa B7 0
       simp [Leaves, settle, results, Try.results39, go_sem, z6, z7]
       exact B3
      | some nf =>
       obtain ⟨rfl, rfl⟩ : r1 = 0 ∧ r2 = 7 := by
        have hp := HP.out
        injection hp with hp
        injection hp with h1 h2
        exact ⟨h1.symm, h2.symm⟩
       clear HP
       go_enter_defers Try.func39, Try.ntmps39
       go_wp2_with (first | ((with_reducible refine qam (N := 3) rfl ?_); refine ze 3 #[.int .i64 a0_0, .slice A0_1 l0_1.length c0_1, .slice A0_2 l0_2.length c0_2, .slice A0_3 l0_3.length c0_3, .slice A0_4 l0_4.length c0_4, .slice A0_5 l0_5.length c0_5] 27 ?_; intro gb hg_gb w2 hbox hb; have BKgb := qab.mk hbox; have n_HB := qab.mk (qae HB.out hb); have GEgb : w.heap.size ≤ gb := (by rw [hg_gb]; exact HB.out.size); clear HB; have HB := n_HB; clear n_HB; obtain ⟨hfgb, hcgb_0, hcgb_1, hcgb_2, hcgb_3, hcgb_4, hcgb_5⟩ := qz6 BKgb.out; clear hbox hb hg_gb) | ((with_reducible refine qam (N := 6) rfl ?_); refine ze 6 #[.int .i64 0] 3 ?_; intro g6 hg_g6 w3 hbox hb; have BKg6 := qab.mk hbox; replace BKgb := qab.mk (qad BKgb.out hb); have n_HB := qab.mk (qae HB.out hb); have GEg6 : w.heap.size ≤ g6 := (by rw [hg_g6]; exact HB.out.size); clear HB; have HB := n_HB; clear n_HB; obtain ⟨hfg6, hcg6_0⟩ := qz1 BKg6.out; clear hbox hb hg_g6; obtain ⟨hfgb, hcgb_0, hcgb_1, hcgb_2, hcgb_3, hcgb_4, hcgb_5⟩ := qz6 BKgb.out) | ((with_reducible refine qam (N := 7) rfl ?_); refine ze 7 #[.int .i64 0] 30 ?_; intro g7 hg_g7 w4 hbox hb; have BKg7 := qab.mk hbox; have ne_g6_g7 : g6 ≠ g7 := (by rw [hg_g7]; exact Nat.ne_of_lt (blk_lt BKg6.out)); replace BKgb := qab.mk (qad BKgb.out hb); replace BKg6 := qab.mk (qad BKg6.out hb); have n_HB := qab.mk (qae HB.out hb); have GEg7 : w.heap.size ≤ g7 := (by rw [hg_g7]; exact HB.out.size); clear HB; have HB := n_HB; clear n_HB; obtain ⟨hfg7, hcg7_0⟩ := qz1 BKg7.out; clear hbox hb hg_g7; have ne_76 := ne_g6_g7.symm; obtain ⟨hfgb, hcgb_0, hcgb_1, hcgb_2, hcgb_3, hcgb_4, hcgb_5⟩ := qz6 BKgb.out; obtain ⟨hfg6, hcg6_0⟩ := qz1 BKg6.out) | (go_at_call 54; (with_reducible refine (HGIV.out _ HB.out).mono ?_); rintro e wn ⟨gd, rfl, GEgd, hbk, hb⟩; have BKgd := qab.mk hbk; clear hbk; replace BKgb := qab.mk (qad BKgb.out hb); replace BKg6 := qab.mk (qad BKg6.out hb); replace BKg7 := qab.mk (qad BKg7.out hb); replace HB := qab.mk (qae HB.out hb); clear hb; obtain ⟨hfgb, hcgb_0, hcgb_1, hcgb_2, hcgb_3, hcgb_4, hcgb_5⟩ := qz6 BKgb.out; obtain ⟨hfg6, hcg6_0⟩ := qz1 BKg6.out; obtain ⟨hfg7, hcg7_0⟩ := qz1 BKg7.out) | (go_at_call 74; (with_reducible refine (HPR.out _ HB.out).mono ?_); rintro e wp ⟨rfl, hb⟩; replace BKgb := qab.mk (qad BKgb.out hb); replace BKg6 := qab.mk (qad BKg6.out hb); replace BKg7 := qab.mk (qad BKg7.out hb); replace BKgd := qab.mk (qad BKgd.out hb); replace HB := qab.mk (qae HB.out hb); clear hb; obtain ⟨hfgb, hcgb_0, hcgb_1, hcgb_2, hcgb_3, hcgb_4, hcgb_5⟩ := qz6 BKgb.out; obtain ⟨hfg6, hcg6_0⟩ := qz1 BKg6.out; obtain ⟨hfg7, hcg7_0⟩ := qz1 BKg7.out) | (go_at_call 76; (with_reducible refine (HRO.out gb _ HB.out BKgb.out).mono ?_); rintro e wq ⟨rfl, hb⟩; replace BKgb := qab.mk (qad BKgb.out hb); replace BKg6 := qab.mk (qad BKg6.out hb); replace BKg7 := qab.mk (qad BKg7.out hb); replace BKgd := qab.mk (qad BKgd.out hb); replace HB := qab.mk (qae HB.out hb); clear hb; obtain ⟨hfgb, hcgb_0, hcgb_1, hcgb_2, hcgb_3, hcgb_4, hcgb_5⟩ := qz6 BKgb.out; obtain ⟨hfg6, hcg6_0⟩ := qz1 BKg6.out; obtain ⟨hfg7, hcg7_0⟩ := qz1 BKg7.out) | (go_at_call 80; (with_reducible refine (HFA.out gd _ HB.out BKgd.out).mono ?_); rintro e wf ⟨he, hb⟩; have he2 : e = .panicked [{ v := .iface 117 (.agg #[.int .i64 nf]), recovered := false }] := he; subst he2; clear he; have n_6 := qab.mk (qad BKg6.out hb); have n_7 := qab.mk (qad BKg7.out hb); clear BKg6 BKg7; have BKg6 := n_6; have BKg7 := n_7; clear n_6 n_7; replace HB := qab.mk (qae HB.out hb); clear hb))
       try simp only [bodyPostD]
       refine leaves_cons (f := 79) (args := #[.pointer (some ⟨g6, 0, none⟩), .pointer (some ⟨g7, 0, none⟩)]) (by simp) (by simp [go_sem]) ?_
       refine (floor3_late g6 g7 0 0 nf wf BKg6.out BKg7.out).mono ?_
       rintro e u' w'' ⟨rfl, rfl, rfl⟩
       have C6 := qan BKg6.out (.cells #[.int .i64 nf] 117)
       have C7 := qan BKg7.out (.cells #[.int .i64 nf] 117)
       have B6 := blk_far (p := ⟨g7, 0, none⟩) (blk_set C6 0 (.int .i64 0)) (blk_ne BKg6.out BKg7.out (by decide)) (.int .i64 7)
       have B7 := blk_set (blk_far (p := ⟨g6, 0, none⟩) C7 (blk_ne BKg7.out BKg6.out (by decide)) (.int .i64 0)) 0 (.int .i64 7)
       have B3 := qaj (j := 0) (v := .int .i64 7) (qaj (j := 0) (v := .int .i64 0) (qag HB.out (.cells #[.int .i64 nf] 117)) GEg6) GEg7
       generalize World.setCell _ ⟨g7, 0, none⟩ (.int .i64 7) = w7 at B6 B7 B3 ⊢
       have z6 : w7.cell? ⟨g6, 0, none⟩ = some (.int .i64 0) := qaa B6 0
       have z7 : w7.cell? ⟨g7, 0, none⟩ = some (.int .i64 7) := qaa B7 0
       simp [Leaves, settle, results, Try.results39, go_sem, z6, z7]
       exact B3
   ·
    obtain ⟨rfl, rfl⟩ : r1 = 0 ∧ r2 = 2 := by
     rw [if_neg hl] at hp
     injection hp with hp
     injection hp with h1 h2
     exact ⟨h1.symm, h2.symm⟩
    have hlb : ((l1.length : Int) != (l2.length : Int)) = true := by simp; omega
    clear hp hg hL hl hr0_1 hr0_2 hr0_3 hr0_4 hr0_5 hr1 hr2
    go_enter_defers Try.func39, Try.ntmps39
    go_wp2_with (first | ((with_reducible refine qam (N := 3) rfl ?_); refine ze 3 #[.int .i64 a0_0, .slice A0_1 l0_1.length c0_1, .slice A0_2 l0_2.length c0_2, .slice A0_3 l0_3.length c0_3, .slice A0_4 l0_4.length c0_4, .slice A0_5 l0_5.length c0_5] 27 ?_; intro gb hg_gb w2 hbox hb; have BKgb := qab.mk hbox; have n_HB := qab.mk (qae HB.out hb); have GEgb : w.heap.size ≤ gb := (by rw [hg_gb]; exact HB.out.size); clear HB; have HB := n_HB; clear n_HB; obtain ⟨hfgb, hcgb_0, hcgb_1, hcgb_2, hcgb_3, hcgb_4, hcgb_5⟩ := qz6 BKgb.out; clear hbox hb hg_gb) | ((with_reducible refine qam (N := 6) rfl ?_); refine ze 6 #[.int .i64 0] 3 ?_; intro g6 hg_g6 w3 hbox hb; have BKg6 := qab.mk hbox; replace BKgb := qab.mk (qad BKgb.out hb); have n_HB := qab.mk (qae HB.out hb); have GEg6 : w.heap.size ≤ g6 := (by rw [hg_g6]; exact HB.out.size); clear HB; have HB := n_HB; clear n_HB; obtain ⟨hfg6, hcg6_0⟩ := qz1 BKg6.out; clear hbox hb hg_g6; obtain ⟨hfgb, hcgb_0, hcgb_1, hcgb_2, hcgb_3, hcgb_4, hcgb_5⟩ := qz6 BKgb.out) | ((with_reducible refine qam (N := 7) rfl ?_); refine ze 7 #[.int .i64 0] 30 ?_; intro g7 hg_g7 w4 hbox hb; have BKg7 := qab.mk hbox; have ne_g6_g7 : g6 ≠ g7 := (by rw [hg_g7]; exact Nat.ne_of_lt (blk_lt BKg6.out)); replace BKgb := qab.mk (qad BKgb.out hb); replace BKg6 := qab.mk (qad BKg6.out hb); have n_HB := qab.mk (qae HB.out hb); have GEg7 : w.heap.size ≤ g7 := (by rw [hg_g7]; exact HB.out.size); clear HB; have HB := n_HB; clear n_HB; obtain ⟨hfg7, hcg7_0⟩ := qz1 BKg7.out; clear hbox hb hg_g7; have ne_76 := ne_g6_g7.symm; obtain ⟨hfgb, hcgb_0, hcgb_1, hcgb_2, hcgb_3, hcgb_4, hcgb_5⟩ := qz6 BKgb.out; obtain ⟨hfg6, hcg6_0⟩ := qz1 BKg6.out) | (go_at_call 54; (with_reducible refine (HGIV.out _ HB.out).mono ?_); rintro e wn ⟨gd, rfl, GEgd, hbk, hb⟩; have BKgd := qab.mk hbk; clear hbk; replace BKgb := qab.mk (qad BKgb.out hb); replace BKg6 := qab.mk (qad BKg6.out hb); replace BKg7 := qab.mk (qad BKg7.out hb); replace HB := qab.mk (qae HB.out hb); clear hb; obtain ⟨hfgb, hcgb_0, hcgb_1, hcgb_2, hcgb_3, hcgb_4, hcgb_5⟩ := qz6 BKgb.out; obtain ⟨hfg6, hcg6_0⟩ := qz1 BKg6.out; obtain ⟨hfg7, hcg7_0⟩ := qz1 BKg7.out))
    have B6 := blk_far (p := ⟨g7, 0, none⟩) (blk_set BKg6.out 0 (.int .i64 0)) (blk_ne BKg6.out BKg7.out (by decide)) (.int .i64 2)
    have B7 := blk_set (blk_far (p := ⟨g6, 0, none⟩) BKg7.out (blk_ne BKg7.out BKg6.out (by decide)) (.int .i64 0)) 0 (.int .i64 2)
    have B3 := qaj (j := 0) (v := .int .i64 2) (qaj (j := 0) (v := .int .i64 0) HB.out GEg6) GEg7
    try dsimp only
    generalize World.setCell _ ⟨g7, 0, none⟩ (.int .i64 2) = w7 at B6 B7 B3 ⊢
    have z6 : w7.cell? ⟨g6, 0, none⟩ = some (.int .i64 0) := qaa B6 0
    have z7 : w7.cell? ⟨g7, 0, none⟩ = some (.int .i64 2) := qaa B7 0
    skip
    simp [bodyPostD, Leaves, settle, results, Try.results39, go_sem, z6, z7]
    exact B3
end Go.Proofs.Ytafkanmioinbiaa.SA
