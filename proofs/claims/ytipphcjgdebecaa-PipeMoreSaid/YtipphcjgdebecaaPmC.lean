/- What functions of the program answer. No condition. -/
import Derived.Test.YtipphcjgdebecaaSC
import Derived.Test.YtipphcjgdebecaaSF
import Derived.Test.YtipphcjgdebecaaSE
import Derived.Test.YtipphcjgdebecaaPmA
import Derived.RangeFuncNested
import Derived.RangeFuncBound
import Derived.RangeFuncCalls
import Derived.RangeFuncLeaves
import Derived.RangeFuncBox
import Derived.Shelf.Abstract
import Derived.Shelf.RegionOpen
import Derived.OwnWalkIn
import Derived.TacticsInMore
import Derived.LoopNIn
import Derived.LoopIn
import Derived.Recover
import Derived.Defers
import Derived.WalkLawsBesides
import Derived.WalkSmall
import Derived.Test.YtipphcjgdebecaaPmB
import Derived.Test.YtipphcjgdebecaaSH
import Derived.Test.YtipphcjgdebecaaSJ
import Derived.Test.YtipphcjgdebecaaSK
import Derived.Test.YtipphcjgdebecaaSL
import Derived.Test.YtipphcjgdebecaaSD
import Derived.Test.YtipphcjgdebecaaSM
set_option linter.all false
set_option maxRecDepth 100000
set_option maxHeartbeats 8000000
namespace Go.Proofs.Ytipphcjgdebecaa.PA
open Go.RowKit Go.Proofs.YtipphcjgdebecaaW.PrintWords Go.Proofs.YtipphcjgdebecaaW.PrintLast Go.Proofs.YtipphcjgdebecaaW.PrintMore
attribute [local go_sem] qas qau max_two min_two qao qap qat qav
def wrapOne (set : Int) (i : Nat) (L : S39) : S39 := if bitB set i = true then ⟨L.f0, L.f2, L.f2, L.f3, L.f4, L.f5, L.f6, L.f7⟩ else L
def wrapTo (l0 : List S39) (set : Int) (k : Nat) : List S39 := l0.mapIdx fun i L => if i < k then wrapOne set i L else L
def wrappedL (l0 : List S39) (set : Int) : List S39 := l0.mapIdx fun i L => wrapOne set i L
theorem wrapTo_length (l0 : List S39) (set : Int) (k : Nat) : (wrapTo l0 set k).length = l0.length := by simp [wrapTo]
theorem wrappedL_length (l0 : List S39) (set : Int) : (wrappedL l0 set).length = l0.length := by simp [wrappedL]
theorem wrapTo_zero (l0 : List S39) (set : Int) : wrapTo l0 set 0 = l0 := by
 refine List.ext_getElem (by simp [wrapTo]) fun i h1 h2 => ?_
 simp [wrapTo]
theorem wrapTo_all (l0 : List S39) (set : Int) : wrapTo l0 set l0.length = wrappedL l0 set := by
 refine List.ext_getElem (by simp [wrapTo, wrappedL]) fun i h1 h2 => ?_
 have h : i < l0.length := by simpa [wrapTo] using h1
 simp [wrapTo, wrappedL, h]
theorem wrapTo_at (l0 : List S39) (set : Int) (k : Nat) (hk : k < l0.length) : qaj (wrapTo l0 set k) (k : Int) = l0[k] := by
 have : k < (wrapTo l0 set k).length := by rw [wrapTo_length]; exact hk
 simp [qaj, this]
 simp [wrapTo]
theorem wrapTo_succ (l0 : List S39) (set : Int) (k : Nat) (hk : k < l0.length) : wrapTo l0 set (k + 1) = (wrapTo l0 set k).set k (wrapOne set k l0[k]) := by
 refine List.ext_getElem (by simp [wrapTo]) fun i h1 h2 => ?_
 rw [List.getElem_set]
 by_cases he : k = i
 ·
  subst he
  simp [wrapTo]
 ·
  rw [if_neg he]
  simp only [wrapTo, List.getElem_mapIdx]
  by_cases hi : i < k
  ·
   rw [if_pos hi, if_pos (by omega)]
  ·
   rw [if_neg hi, if_neg (by omega)]
theorem wrapTo_no (l0 : List S39) (set : Int) (k : Nat) (hk : k < l0.length) (hb : bitB set (k : Int) = false) : wrapTo l0 set (k + 1) = wrapTo l0 set k := by
 refine List.ext_getElem (by simp [wrapTo]) fun i h1 h2 => ?_
 simp only [wrapTo, List.getElem_mapIdx]
 by_cases he : i = k
 ·
  subst he
  simp [wrapOne, hb]
 ·
  by_cases hi : i < k
  ·
   rw [if_pos hi, if_pos (by omega)]
  ·
   rw [if_neg hi, if_neg (by omega)]
theorem wrapTo_yes (l0 : List S39) (set : Int) (k : Nat) (hk : k < l0.length) (hb : bitB set (k : Int) = true) :
  wrapTo l0 set (k + 1) = (wrapTo l0 set k).set (Int.toNat (k : Int)) ⟨(qaj (wrapTo l0 set k) k).f0, (qaj (wrapTo l0 set k) k).f2, (qaj (wrapTo l0 set k) k).f2, (qaj (wrapTo l0 set k) k).f3, (qaj (wrapTo l0 set k) k).f4, (qaj (wrapTo l0 set k) k).f5, (qaj (wrapTo l0 set k) k).f6, (qaj (wrapTo l0 set k) k).f7⟩ := by
 rw [wrapTo_at l0 set k hk, wrapTo_succ l0 set k hk, Int.toNat_natCast]
 simp [wrapOne, hb]
def cells39 (L : S39) : List Value := [.int .i64 L.f0.f0, .int .i64 L.f0.f1, .int .i64 L.f1.f0, .int .i64 L.f1.f1, .int .i64 L.f2.f0, .int .i64 L.f2.f1, .int .i64 L.f3, .int .i64 L.f4, .int .i64 L.f5, .int .i64 L.f6, .int .i64 L.f7.f0, .int .i64 L.f7.f1]
theorem row39_at {W : World} {base gr n c : Nat} {ok : Nat → Prop} {xs : List S39} (h : k39.R 39 W base ok (.slice (some ⟨gr, 0, none⟩) n c) xs) (k : Nat) (hk : k < n) : ∀ j u, (cells39 (qaj xs k))[j]? = some u → W.cell? ⟨gr, k * 12 + j, none⟩ = some u := by
 obtain ⟨ad, c', e, _, hK, hc⟩ := Kd.C_get (Kd.R_reads' h).2.2 z39 (k : Int) (by omega) (by have := (Kd.R_reads' h).1; omega)
 cases e
 obtain rfl := k39_open hK
 intro j u hj
 have h1 := hc j u hj
 have e2 : (⟨gr, 0, none⟩ : Addr).add ((k : Int).toNat * 12 + j) = ⟨gr, k * 12 + j, none⟩ := by simp [Addr.add]; try omega
 exact e2 ▸ h1
structure WI (w : World) (gb g4 g5 : Nat) (u0 u1 u2 : Value) (vr : Value) (xs : List S39) (W : World) : Prop where
 b : W.heap[gb]? = some (.cells #[u0, u1, u2] 26 (0, 0))
 r : W.heap[g4]? = some (.cells #[.slice none 0 0, .slice none 0 0, .slice none 0 0] 26 (0, 0))
 o : W.heap[g5]? = some (.cells #[vr, u1, u2] 26 (0, 0))
 x : Kd.R k39 39 W w.heap.size (fun _ => True) vr xs
 hb : Below w.heap.size w W
theorem WI.below {w W W' : World} {gb g4 g5 : Nat} {u0 u1 u2 vr : Value} {xs : List S39} (h : WI w gb g4 g5 u0 u1 u2 vr xs W) (hb : Below W.heap.size W W') : WI w gb g4 g5 u0 u1 u2 vr xs W' := ⟨qae h.b hb, qae h.r hb, qae h.o hb, Kd.R_below h.x hb, qad h.hb hb⟩
theorem talikref04_Wrapped.calls (A0_0 : Option Addr) (c0_0 : Nat) (l0_0 : List S39) (A0_1 : Option Addr) (n1 c0_1 : Nat) (A0_2 : Option Addr) (n2 c0_2 : Nat) (set : Int) (w : World) (hr0_0 : Kd.C k39 w A0_0 l0_0.length l0_0) (hc0_0 : l0_0.length ≤ c0_0) (h5 : l0_0.length ≤ 5) (s0 : 0 ≤ set) (s1 : set < 32) :
  Calls Try.prog 42 #[.agg #[.slice A0_0 l0_0.length c0_0, .slice A0_1 n1 c0_1, .slice A0_2 n2 c0_2], .int .i64 set] w fun e w' => ∃ A c, e = .returned (.agg #[.slice A l0_0.length c, .slice A0_1 n1 c0_1, .slice A0_2 n2 c0_2]) ∧ l0_0.length ≤ c ∧ Kd.C k39 w' A l0_0.length (wrappedL l0_0 set) ∧ Below w.heap.size w w' := by
 have hu26 := Try.underlying26
 have hu39 := Try.underlying39
 have hu37 := Try.underlying37
 have HB := qab.mk (Below.refl w.heap.size w)
 have HR0 := qab.mk hr0_0
 have HC0 := qab.mk hc0_0
 clear hr0_0 hc0_0
 have hhas : ∀ (i : Nat) (W : World), i < 5 → Calls Try.prog 68 #[.int .i64 set, .int .i64 i] W fun e w' => e = .returned (.bool (bitB set i)) ∧ Below W.heap.size W w' := fun i W hi => (talikref04_Has.calls 10 set i _ W (has_eq set s0 s1 i hi 10 (by omega))).mono fun e w' ⟨h1, h2⟩ => ⟨h1, h2.below⟩
 have HHAS := qab.mk hhas
 clear hhas
 go_enter Try.func42, Try.ntmps42
 go_upto_region 2 with (first | ((with_reducible refine qam (N := 2) rfl ?_); refine qal ?hg (N := 2) ?hd (cs := #[.slice A0_0 l0_0.length c0_0, .slice A0_1 n1 c0_1, .slice A0_2 n2 c0_2]) (t := 26) ?hr ?_; (case hd => rfl); (case hg => rfl); (case hr => first | (go_simp; done) | (go_simp; rfl)); intro gb hg_gb w2 hbox hb; have BKgb := qab.mk hbox; have n_HB := qab.mk (qad HB.out hb); have GEgb : w.heap.size ≤ gb := (by rw [hg_gb]; exact HB.out.size); clear HB; have HB := n_HB; clear n_HB; obtain ⟨hfgb, hcgb_0, hcgb_1, hcgb_2⟩ := qz3 BKgb.out; clear hbox hb hg_gb) | ((with_reducible refine qam (N := 4) rfl ?_); refine qal ?hg (N := 4) ?hd (cs := #[.slice none 0 0, .slice none 0 0, .slice none 0 0]) (t := 26) ?hr ?_; (case hd => rfl); (case hg => rfl); (case hr => first | (go_simp; done) | (go_simp; rfl)); intro g4 hg_g4 w3 hbox hb; have BKg4 := qab.mk hbox; replace BKgb := qab.mk (qae BKgb.out hb); have n_HB := qab.mk (qad HB.out hb); have GEg4 : w.heap.size ≤ g4 := (by rw [hg_g4]; exact HB.out.size); clear HB; have HB := n_HB; clear n_HB; obtain ⟨hfg4, hcg4_0, hcg4_1, hcg4_2⟩ := qz3 BKg4.out; clear hbox hb hg_g4; obtain ⟨hfgb, hcgb_0, hcgb_1, hcgb_2⟩ := qz3 BKgb.out) | ((with_reducible refine qam (N := 5) rfl ?_); refine qal ?hg (N := 5) ?hd (cs := #[.slice none 0 0, .slice none 0 0, .slice none 0 0]) (t := 26) ?hr ?_; (case hd => rfl); (case hg => rfl); (case hr => first | (go_simp; done) | (go_simp; rfl)); intro g5 hg_g5 w4 hbox hb; have BKg5 := qab.mk hbox; have ne_gb_g5 : gb ≠ g5 := (by rw [hg_g5]; exact Nat.ne_of_lt (blk_lt BKgb.out)); have ne_g4_g5 : g4 ≠ g5 := (by rw [hg_g5]; exact Nat.ne_of_lt (blk_lt BKg4.out)); replace BKgb := qab.mk (qae BKgb.out hb); replace BKg4 := qab.mk (qae BKg4.out hb); have n_HB := qab.mk (qad HB.out hb); have GEg5 : w.heap.size ≤ g5 := (by rw [hg_g5]; exact HB.out.size); clear HB; have HB := n_HB; clear n_HB; obtain ⟨hfg5, hcg5_0, hcg5_1, hcg5_2⟩ := qz3 BKg5.out; clear hbox hb hg_g5; obtain ⟨hfgb, hcgb_0, hcgb_1, hcgb_2⟩ := qz3 BKgb.out))
 have he_ : setAll w4 g5 [.slice A0_0 l0_0.length c0_0, .slice A0_1 n1 c0_1, .slice A0_2 n2 c0_2] 0 = (((w4.setCell ⟨g5, 0, none⟩ (.slice A0_0 l0_0.length c0_0)).setCell ⟨g5, 1, none⟩ (.slice A0_1 n1 c0_1)).setCell ⟨g5, 2, none⟩ (.slice A0_2 n2 c0_2)) := rfl; have hbl := setAll_below GEg5 [.slice A0_0 l0_0.length c0_0, .slice A0_1 n1 c0_1, .slice A0_2 n2 c0_2] 0 _ HB.out; have hbx : (setAll w4 g5 [.slice A0_0 l0_0.length c0_0, .slice A0_1 n1 c0_1, .slice A0_2 n2 c0_2] 0).heap[g5]? = some (.cells #[.slice A0_0 l0_0.length c0_0, .slice A0_1 n1 c0_1, .slice A0_2 n2 c0_2] 26 (0, 0)) := setAll_new [.slice A0_0 l0_0.length c0_0, .slice A0_1 n1 c0_1, .slice A0_2 n2 c0_2] [.slice none 0 0, .slice none 0 0, .slice none 0 0] BKg5.out rfl; have hx_BKgb := setAll_far ne_gb_g5 [.slice A0_0 l0_0.length c0_0, .slice A0_1 n1 c0_1, .slice A0_2 n2 c0_2] 0 _ BKgb.out; have hx_BKg4 := setAll_far ne_g4_g5 [.slice A0_0 l0_0.length c0_0, .slice A0_1 n1 c0_1, .slice A0_2 n2 c0_2] 0 _ BKg4.out; rw [he_] at hbl hbx hx_BKgb hx_BKg4; clear he_; generalize (((w4.setCell ⟨g5, 0, none⟩ (.slice A0_0 l0_0.length c0_0)).setCell ⟨g5, 1, none⟩ (.slice A0_1 n1 c0_1)).setCell ⟨g5, 2, none⟩ (.slice A0_2 n2 c0_2)) = w5 at hbl hbx hx_BKgb hx_BKg4 ⊢; clear HB BKg5; have HB := qab.mk hbl; have BKg5 := qab.mk hbx; clear hbl hbx; clear BKgb; have BKgb := qab.mk hx_BKgb; clear hx_BKgb; clear BKg4; have BKg4 := qab.mk hx_BKg4; clear hx_BKg4
 clear hfg5 hcg5_0 hcg5_1 hcg5_2 hfgb hcgb_0 hcgb_1 hcgb_2 hfg4 hcg4_0 hcg4_1 hcg4_2
 obtain ⟨hfgb, hcgb_0, hcgb_1, hcgb_2⟩ := qz3 BKgb.out
 obtain ⟨hfg5, hcg5_0, hcg5_1, hcg5_2⟩ := qz3 BKg5.out
 go_upto_region 3 with (first | ((with_reducible refine gate_builtin (b := .append) (xs := #[.const (.slice none 0 0), .tmp 9]) rfl ?_); at_builtin; refine Kd.R_append_rows k39 (w0 := w) w.heap.size rfl (.const (.slice none 0 0)) (.tmp 9) 22 39 (.agg #[.int .i64 0, .int .i64 0, .int .i64 0, .int .i64 0, .int .i64 0, .int .i64 0, .int .i64 0, .int .i64 0, .int .i64 0, .int .i64 0, .int .i64 0, .int .i64 0]) 96 rfl Try.underlying22 info39 rfl (by decide) (by omega) (.slice none 0 0) ([] : List S39) l0_0 _ _ _ (fun _ => True) (fun _ => False) rfl rfl ?aO ?aR (fun _ _ h => h) (fun _ h => h.elim) ?aF ?aB ?aS ?aL ?_; (case aR => exact Kd.qak HR0.out HB.out); (case aB => exact HB.out); (case aF => exact fun _ _ => trivial); (case aO => exact Kd.R_nil _ _ _ _ _); (case aS => exact HB.out.size); (case aL => simp; omega); intro v10 w10 ho hB hg hat; have n_b := qab.mk (blk_grown BKgb.out hg (by simp [Value.ownBlock])); have n_4 := qab.mk (blk_grown BKg4.out hg (by simp [Value.ownBlock])); have n_5 := qab.mk (blk_grown BKg5.out hg (by simp [Value.ownBlock])); clear BKgb BKg4 BKg5 HB; have BKgb := n_b; have BKg4 := n_4; have BKg5 := n_5; have HB := qab.mk hB; rw [List.nil_append] at ho; obtain ⟨vA, vc, rfl⟩ := Kd.R_slice ho; have HO := qab.mk ho; clear n_b n_4 n_5 ho hB hg hat; obtain ⟨hfg5, hcg5_0, hcg5_1, hcg5_2⟩ := qz3 BKg5.out))
 have hbk5 := blk_set BKg5.out 0 (.slice vA l0_0.length vc)
 have hbkb := blk_far (p := ⟨g5, 0, none⟩) BKgb.out ne_gb_g5 (.slice vA l0_0.length vc)
 have hbk4 := blk_far (p := ⟨g5, 0, none⟩) BKg4.out ne_g4_g5 (.slice vA l0_0.length vc)
 have hbb := qai (j := 0) (v := .slice vA l0_0.length vc) HB.out GEg5
 have hx := Kd.R_set HO.out BKg5.out (by decide) 0 (.slice vA l0_0.length vc)
 have HI : qab (WI w gb g4 g5 (.slice A0_0 l0_0.length c0_0) (.slice A0_1 n1 c0_1) (.slice A0_2 n2 c0_2) (.slice vA l0_0.length vc) (wrapTo l0_0 set 0) (w10.setCell ⟨g5, 0, none⟩ (.slice vA l0_0.length vc))) := ⟨⟨hbkb, hbk4, hbk5, by rw [wrapTo_zero]; exact hx, hbb⟩⟩
 clear hbk5 hbkb hbk4 hbb hx hfg5 hcg5_0 hcg5_1 hcg5_2 hfgb hcgb_0 hcgb_1 hcgb_2 BKgb BKg4 BKg5 HB HO
 generalize w10.setCell ⟨g5, 0, none⟩ (.slice vA l0_0.length vc) = wL at HI ⊢
 go_wp2
 go_loopw [6] (fun s6 wr => ∃ k : Nat, k ≤ l0_0.length ∧ s6 = .int .i64 k ∧ qab (WI w gb g4 g5 (.slice A0_0 l0_0.length c0_0) (.slice A0_1 n1 c0_1) (.slice A0_2 n2 c0_2) (.slice vA l0_0.length vc) (wrapTo l0_0 set k) wr)) (fun s6 _ => l0_0.length - (intOf s6).toNat)
 case atStart => exact ⟨0, by omega, rfl, HI⟩
 case round =>
  clear HI wL
  obtain ⟨k, hk1, rfl, HI⟩ := hrel
  have g5_0 : wr.cell? ⟨g5, 0, none⟩ = some (.slice vA l0_0.length vc) := (qaa HI.out.o 0).trans rfl
  by_cases hlt : k < l0_0.length
  ·
   have hk5 : k < 5 := by omega
   cases hbit : bitB set (k : Int) with
   | false =>
    have HN := qab.mk (wrapTo_no l0_0 set k hlt hbit)
    have HC : qab (∀ W, Calls Try.prog 68 #[.int .i64 set, .int .i64 k] W fun e w' => e = .returned (.bool false) ∧ Below W.heap.size W w') := ⟨fun W => by have h := HHAS.out k W hk5; rw [hbit] at h; exact h⟩
    clear hbit
    go_wp2_with (go_at_call 68; with_reducible refine (HC.out _).mono ?_; rintro e w4 ⟨rfl, hb⟩; replace HI := qab.mk (HI.out.below hb); clear hb g5_0; have g5_0 : w4.cell? ⟨g5, 0, none⟩ = some (.slice vA l0_0.length vc) := (qaa HI.out.o 0).trans rfl)
    go_roundw
    case rel => exact ⟨k + 1, by omega, by go_num, by rw [HN.out]; exact HI⟩
    case measure => simp [intOf]; omega
   | true =>
    have HY := qab.mk (wrapTo_yes l0_0 set k hlt hbit)
    have HC : qab (∀ W, Calls Try.prog 68 #[.int .i64 set, .int .i64 k] W fun e w' => e = .returned (.bool true) ∧ Below W.heap.size W w') := ⟨fun W => by have h := HHAS.out k W hk5; rw [hbit] at h; exact h⟩
    clear hbit
    go_upto_region 7 with (go_at_call 68; with_reducible refine (HC.out _).mono ?_; rintro e w4 ⟨rfl, hb⟩; replace HI := qab.mk (HI.out.below hb); clear hb g5_0)
    obtain ⟨gr, c', e, hgr, hgl, cs', hbr⟩ := Kd.R_form HI.out.x (by rw [wrapTo_length]; omega)
    rw [wrapTo_length] at e
    injection e with e1 _ e3
    subst e1
    subst e3
    obtain ⟨L, hL⟩ : ∃ L, L = qaj (wrapTo l0_0 set k) (k : Int) := ⟨_, rfl⟩
    have hrow := row39_at HI.out.x k (by omega)
    rw [← hL] at hrow
    rw [← hL] at HY
    have hS : (w4.cell? ⟨g5, 0, none⟩ = some (.slice (some ⟨gr, 0, none⟩) l0_0.length vc) ∧ w4.cell? ⟨gr, k * 12 + 4, none⟩ = some (.int .i64 L.f2.f0) ∧ w4.cell? ⟨gr, k * 12 + 5, none⟩ = some (.int .i64 L.f2.f1)) := ⟨(qaa HI.out.o 0).trans rfl, hrow 4 _ rfl, hrow 5 _ rfl⟩
    have hne := blk_ne HI.out.b hbr (by decide)
    have hne4 := blk_ne HI.out.r hbr (by decide)
    have hne5 := blk_ne HI.out.o hbr (by decide)
    have HS := qab.mk hS
    have HROW := qab.mk hrow
    have HBR := qab.mk hbr
    clear hS hrow hbr hL
    refine start_ (n := 12) (S := (fun w' => (w'.cell? ⟨g5, 0, none⟩ = some (.slice (some ⟨gr, 0, none⟩) l0_0.length vc) ∧ w'.cell? ⟨gr, k * 12 + 4, none⟩ = some (.int .i64 L.f2.f0) ∧ w'.cell? ⟨gr, k * 12 + 5, none⟩ = some (.int .i64 L.f2.f1)))) (ds := [11]) (msk 12 0) (by kernel_rfl) rfl rfl (HS.out) (fun hHeld => ?_)
    have n_HI := qab.mk (HI.out.below (below_drew (Below.refl w4.heap.size w4))); have hbd : w4.drew.heap[gr]? = some (.cells cs' 39 (0, 0)) := HBR.out; have n_R : ∀ j u, (cells39 L)[j]? = some u → w4.drew.cell? ⟨gr, k * 12 + j, none⟩ = some u := HROW.out; have n_ROW := qab.mk n_R; clear HI HROW HBR n_R; have HI := n_HI; have HROW := n_ROW; clear n_HI n_ROW; generalize w4.drew = wd at HI HROW hbd hHeld ⊢; have fr := qac hbd; have HBR := qab.mk hbd; clear hbd; have d2 : wd.cell? ⟨gr, k * 12 + 2, none⟩ = some (.int .i64 L.f1.f0) := HROW.out 2 _ rfl; have d3 : wd.cell? ⟨gr, k * 12 + 3, none⟩ = some (.int .i64 L.f1.f1) := HROW.out 3 _ rfl
    refine pure_ (i := 0) (N := some 22) (v := ?_) (a' := ?_) (msk 12 1) rfl rfl (by kernel_rfl) (fun _ _ _ h => h) (Or.inl ⟨by rfl, ?_⟩) ?_ ?_; rotate_left; (focus (intro w'; go_simp; with_reducible rfl)); rotate_left; (focus (simp only [Act.put, qzA, qzB, qzC, i64_w, i32_w]; rfl))
    refine take_ (i := 1) (N := some 23) (v := ?_) (a' := ?_) (msk 12 2) rfl rfl (by kernel_rfl) (fun _ _ _ h => h) (Or.inl ⟨by rfl, ?_⟩) hHeld ?_ ?_; rotate_left; (focus (rintro w' ⟨s0, s1, s2⟩; go_simp; with_reducible rfl)); rotate_left; (focus (simp only [Act.put, qzA, qzB, qzC, i64_w, i32_w]; rfl))
    refine pure_ (i := 2) (N := some 24) (v := ?_) (a' := ?_) (msk 12 3) rfl rfl (by kernel_rfl) (fun _ _ _ h => h) (Or.inl ⟨by rfl, ?_⟩) ?_ ?_; rotate_left; (focus (intro w'; go_simp; with_reducible rfl)); rotate_left; (focus (simp only [Act.put, qzA, qzB, qzC, i64_w, i32_w]; rfl))
    refine pure_ (i := 3) (N := some 25) (v := ?_) (a' := ?_) (msk 12 4) rfl rfl (by kernel_rfl) (fun _ _ _ h => h) (Or.inl ⟨by rfl, ?_⟩) ?_ ?_; rotate_left; (focus (intro w'; go_simp; with_reducible rfl)); rotate_left; (focus (simp only [Act.put, qzA, qzB, qzC, i64_w, i32_w]; rfl))
    refine take_ (i := 4) (N := some 26) (v := ?_) (a' := ?_) (msk 12 5) rfl rfl (by kernel_rfl) (fun _ _ _ h => h) (Or.inl ⟨by rfl, ?_⟩) hHeld ?_ ?_; rotate_left; (focus (rintro w' ⟨s0, s1, s2⟩; go_simp; with_reducible rfl)); rotate_left; (focus (simp only [Act.put, qzA, qzB, qzC, i64_w, i32_w]; rfl))
    refine pure_ (i := 5) (N := some 27) (v := ?_) (a' := ?_) (msk 12 6) rfl rfl (by kernel_rfl) (fun _ _ _ h => h) (Or.inl ⟨by rfl, ?_⟩) ?_ ?_; rotate_left; (focus (intro w'; go_simp; with_reducible rfl)); rotate_left; (focus (simp only [Act.put, qzA, qzB, qzC, i64_w, i32_w]; rfl))
    refine pure_ (i := 6) (N := some 28) (v := ?_) (a' := ?_) (msk 12 7) rfl rfl (by kernel_rfl) (fun _ _ _ h => h) (Or.inl ⟨by rfl, ?_⟩) ?_ ?_; rotate_left; (focus (intro w'; go_simp; with_reducible rfl)); rotate_left; (focus (simp only [Act.put, qzA, qzB, qzC, i64_w, i32_w]; rfl))
    refine pure_ (i := 7) (N := some 29) (v := ?_) (a' := ?_) (msk 12 8) rfl rfl (by kernel_rfl) (fun _ _ _ h => h) (Or.inl ⟨by rfl, ?_⟩) ?_ ?_; rotate_left; (focus (intro w'; go_simp; with_reducible rfl)); rotate_left; (focus (simp only [Act.put, qzA, qzB, qzC, i64_w, i32_w]; rfl))
    refine take_ (i := 8) (N := some 30) (v := ?_) (a' := ?_) (msk 12 9) rfl rfl (by kernel_rfl) (fun _ _ _ h => h) (Or.inl ⟨by rfl, ?_⟩) hHeld ?_ ?_; rotate_left; (focus (rintro w' ⟨s0, s1, s2⟩; go_simp; with_reducible rfl)); rotate_left; (focus (simp only [Act.put, qzA, qzB, qzC, i64_w, i32_w]; rfl))
    refine pure_ (i := 9) (N := some 31) (v := ?_) (a' := ?_) (msk 12 10) rfl rfl (by kernel_rfl) (fun _ _ _ h => h) (Or.inl ⟨by rfl, ?_⟩) ?_ ?_; rotate_left; (focus (intro w'; go_simp; with_reducible rfl)); rotate_left; (focus (simp only [Act.put, qzA, qzB, qzC, i64_w, i32_w]; rfl))
    refine pure_ (i := 10) (N := some 32) (v := ?_) (a' := ?_) (msk 12 11) rfl rfl (by kernel_rfl) (fun _ _ _ h => h) (Or.inl ⟨by rfl, ?_⟩) ?_ ?_; rotate_left; (focus (intro w'; go_simp; with_reducible rfl)); rotate_left; (focus (simp only [Act.put, qzA, qzB, qzC, i64_w, i32_w]; rfl))
    refine last_ (i := 11) (N := none) (msk 12 12) rfl rfl (by kernel_rfl) (by decide) (fun K hK => ?_); refine skip_ (w1 := ?_) (by rfl) rfl ?_ ?_; rotate_left; (focus (go_simp; rfl)); refine hK.out _ _ ?_; clear hK K hHeld
    have hsg := Kd.R_seg HI.out.x (k : Int) (by omega) (by omega) (c := cells39 L) (seg := [.int .i64 L.f2.f0, .int .i64 L.f2.f1]) (j := 2) rfl HROW.out (show 2 + 2 ≤ 12 by decide) (x' := (⟨L.f0, L.f2, L.f2, L.f3, L.f4, L.f5, L.f6, L.f7⟩ : S39)) (okp := fun _ => False) (k39_mkM _ _ _ (⟨L.f0, L.f2, L.f2, L.f3, L.f4, L.f5, L.f6, L.f7⟩ : S39)) (fun _ h => h.elim)
    have h1 : k39.R 39 ((wd.setCell ⟨gr, k * 12 + 2, none⟩ (.int .i64 L.f2.f0)).setCell ⟨gr, k * 12 + 2 + 1, none⟩ (.int .i64 L.f2.f1)) w.heap.size (fun _ => True) (.slice (some ⟨gr, 0, none⟩) l0_0.length vc) ((wrapTo l0_0 set k).set (Int.toNat (k : Int)) (⟨L.f0, L.f2, L.f2, L.f3, L.f4, L.f5, L.f6, L.f7⟩ : S39)) := hsg.1
    have h2 := blk_far (p := ⟨gr, k * 12 + 2 + 1, none⟩) (blk_far (p := ⟨gr, k * 12 + 2, none⟩) HI.out.b hne (.int .i64 L.f2.f0)) hne (.int .i64 L.f2.f1)
    have h3 := blk_far (p := ⟨gr, k * 12 + 2 + 1, none⟩) (blk_far (p := ⟨gr, k * 12 + 2, none⟩) HI.out.r hne4 (.int .i64 L.f2.f0)) hne4 (.int .i64 L.f2.f1)
    have h4 := blk_far (p := ⟨gr, k * 12 + 2 + 1, none⟩) (blk_far (p := ⟨gr, k * 12 + 2, none⟩) HI.out.o hne5 (.int .i64 L.f2.f0)) hne5 (.int .i64 L.f2.f1)
    have h5 := qai (j := k * 12 + 2 + 1) (v := .int .i64 L.f2.f1) (qai (j := k * 12 + 2) (v := .int .i64 L.f2.f0) HI.out.hb hgr) hgr
    have HI2 := qab.mk (WI.mk h2 h3 h4 h1 h5); clear HI hsg h1 h2 h3 h4 h5 HROW HBR d2 d3 fr HS hne hne4 hne5
    generalize ((wd.setCell ⟨gr, k * 12 + 2, none⟩ (.int .i64 L.f2.f0)).setCell ⟨gr, k * 12 + 2 + 1, none⟩ (.int .i64 L.f2.f1)) = we at HI2 ⊢; have HI := HI2; clear HI2
    refine done_ (by kernel_rfl) ?_
    go_wp2
    go_roundw
    case rel => exact ⟨k + 1, by omega, by go_num, by rw [HY.out]; exact HI⟩
    case measure => simp [intOf]; omega
  ·
   obtain rfl : k = l0_0.length := by omega
   have g5_1 : wr.cell? ⟨g5, 1, none⟩ = some (.slice A0_1 n1 c0_1) := (qaa HI.out.o 1).trans rfl
   have g5_2 : wr.cell? ⟨g5, 2, none⟩ = some (.slice A0_2 n2 c0_2) := (qaa HI.out.o 2).trans rfl
   have g4_0 : wr.cell? ⟨g4, 0, none⟩ = some (.slice none 0 0) := (qaa HI.out.r 0).trans rfl; have g4_1 : wr.cell? ⟨g4, 1, none⟩ = some (.slice none 0 0) := (qaa HI.out.r 1).trans rfl; have g4_2 : wr.cell? ⟨g4, 2, none⟩ = some (.slice none 0 0) := (qaa HI.out.r 2).trans rfl
   have f4 := qac HI.out.r
   go_wp2
   refine bodyPost_ret (results_cell_row rfl _ _ g4 26 #[.slice vA l0_0.length vc, .slice A0_1 n1 c0_1, .slice A0_2 n2 c0_2] (0, 0) _ rfl (blk_set (blk_set (blk_set HI.out.r 0 _) 1 _) 2 _) Try.underlying26 rfl (by kernel_rfl)) rfl ?_
   have hC := Kd.R_reads' (Kd.R_set (Kd.R_set (Kd.R_set HI.out.x HI.out.r (by decide) 0 (.slice vA l0_0.length vc)) (blk_set HI.out.r 0 _) (by decide) 1 (.slice A0_1 n1 c0_1)) (blk_set (blk_set HI.out.r 0 _) 1 _) (by decide) 2 (.slice A0_2 n2 c0_2))
   rw [wrapTo_all, wrappedL_length] at hC
   exact ⟨vA, vc, rfl, by have := hC.2.1; omega, hC.2.2, qai (qai (qai HI.out.hb GEg4) GEg4) GEg4⟩
end Go.Proofs.Ytipphcjgdebecaa.PA
namespace Go.Proofs.Ytipphcjgdebecaa.PA
open Go.RowKit Go.Shelf Go.Proofs.YtipphcjgdebecaaW.PrintWords Go.Proofs.YtipphcjgdebecaaW.PrintLast Go.Proofs.YtipphcjgdebecaaW.PrintMore
attribute [local go_sem] qas qau max_two min_two qao qap qat qav
theorem rdT39_wrapped (l0 : List S39) (set : Int) (n : Nat) (hn : n < l0.length) : qaj (wrappedL l0 set) (n : Int) = wrapOne set n (qaj l0 (n : Int)) := by
 simp [qaj, wrappedL, hn]
theorem f7_wrapped (l0 : List S39) (set i : Int) : (qaj (wrappedL l0 set) i).f7 = (qaj l0 i).f7 := by
 by_cases h : i.toNat < l0.length
 ·
  simp only [qaj, wrappedL, List.getElem?_mapIdx, List.getElem?_eq_getElem h, Option.map_some, Option.getD_some, List.getD_eq_getElem?_getD]
  unfold wrapOne
  split <;> rfl
 ·
  simp [qaj, wrappedL, h]
theorem wrapOne_loop {L : S39} (set : Int) (i : Nat) (h : loopB L = true) : loopB (wrapOne set i L) = true := by
 unfold wrapOne
 split
 ·
  have hL := loop_ok h
  have a1 := hL.w0
  have a2 := hL.w1
  have a3 := hL.w2
  have a4 := hL.p0
  have a5 := hL.p1
  have a6 := hL.p2
  have a7 := hL.c0
  have a8 := hL.c1
  have a9 := hL.m0
  have b1 := hL.m1
  have b2 := hL.g0
  have b3 := hL.g1
  have b4 := hL.e0
  have b5 := hL.e1
  have b6 := hL.x0
  have b7 := hL.x1
  have b8 := hL.x2
  unfold loopB spanB inB
  simp only [Bool.and_eq_true, decide_eq_true_eq]
  exact ⟨⟨a1, a2, a3⟩, ⟨a4, a5, a6⟩, ⟨a4, a5, a6⟩, Int.le_refl _, Int.le_refl _, ⟨a7, a8⟩, ⟨a9, b1⟩, ⟨b2, b3⟩, ⟨b4, b5⟩, b6, b7, b8⟩
 ·
  exact h
theorem valid_wrapped {l0 : List S39} {l1 : List S37} {l2 : List (List Int)} (set : Int) (h : validB l0 l1 l2 = true) : validB (wrappedL l0 set) l1 l2 = true := by
 unfold validB at h ⊢
 rw [wrappedL_length]
 simp only [Bool.and_eq_true] at h ⊢
 obtain ⟨h1, h2, h3, h4, h5, h6⟩ := h
 refine ⟨h1, h2, h3, h4, ?_, h6⟩
 rw [List.all_eq_true] at h5 ⊢
 intro L hL
 unfold wrappedL at hL
 obtain ⟨i, hi, rfl⟩ := List.mem_iff_getElem.1 hL
 rw [List.getElem_mapIdx]
 exact wrapOne_loop set i (h5 _ (List.getElem_mem _))
theorem inFault_wrapped (l0 : List S39) (set f : Int) : inFault (wrappedL l0 set) f = inFault l0 f := by
 unfold inFault
 rw [wrappedL_length]
def SomeNet (w : World) (l0 : List S39) (A1 : Value) (A2 : Value) (set : Int) (W : World) (e : Ending) (w' : World) : Prop := ∃ A c, e = .returned (.agg #[.slice A l0.length c, A1, A2]) ∧ l0.length ≤ c ∧ Kd.C k39 w' A l0.length (wrappedL l0 set) ∧ Below W.heap.size W w'
section
theorem sl_mono {l0 l0' : List S39} {l2 l2' : List (List Int)} {D D' : List Int} {N : Int} (n : Int)
  (hD : ∀ i : Int, 0 ≤ i → i < n → rd D' i ≤ rd D i) (hF : ∀ i : Int, 0 ≤ i → i < n → (qaj l0 i).f7.f1 ≤ (qaj l0' i).f7.f1)
  (hW : ∀ p i : Int, 0 ≤ p → p ≤ n → 0 ≤ i → i < n → rd (rd_L1 l2 p) (i + 1) ≤ rd (rd_L1 l2' p) (i + 1)) :
  ∀ (o : List Int) (p h h' : Int), (∀ x ∈ o, 0 ≤ x ∧ x < n) → 0 ≤ p → p ≤ n → h ≤ h' → sl l0' l2' D' N p h' o ≤ sl l0 l2 D N p h o
 | [], _, _, _, _, _, _, _ => Int.le_refl _
 | x :: t, p, h, h', ho, p0, p1, hh => by
  obtain ⟨x0, x1⟩ := ho x (by simp)
  have a1 := hD x x0 x1
  have a2 := hF x x0 x1
  have a3 := hW p x p0 p1 x0 x1
  have ih := sl_mono (N := N) n hD hF hW t (x + 1) (h + rd (rd_L1 l2 p) (x + 1) + (qaj l0 x).f7.f1) (h' + rd (rd_L1 l2' p) (x + 1) + (qaj l0' x).f7.f1) (fun y hy => ho y (by simp [hy])) (by omega) (by omega) (by omega)
  simp only [sl]
  omega
theorem order_mono {l0 l0' : List S39} {l1 : List S37} {l2 l2' : List (List Int)} (hv : validB l0 l1 l2 = true) (hv' : validB l0' l1 l2' = true) (hl : l0'.length = l0.length)
  (hD : ∀ i : Int, 0 ≤ i → i < l0.length → rd (duesI l0' l1) i ≤ rd (duesI l0 l1) i) (hF : ∀ i : Int, 0 ≤ i → i < l0.length → (qaj l0 i).f7.f1 ≤ (qaj l0' i).f7.f1)
  (hW : ∀ p i : Int, 0 ≤ p → p ≤ l0.length → 0 ≤ i → i < l0.length → rd (rd_L1 l2 p) (i + 1) ≤ rd (rd_L1 l2' p) (i + 1)) (a f : Int) (a0 : 0 ≤ a) (a1 : a ≤ l0.length) (hf : inFault l0 f = true) (hr : (orderV l0' l1 l2' a f).2.2 = true) :
  (orderV l0 l1 l2 a f).2.2 = true ∧ (orderV l0' l1 l2' a f).2.1 ≤ (orderV l0 l1 l2 a f).2.1 := by
 have hN := net_ok hv
 have hN' := net_ok hv'
 have hf' : inFault l0' f = true := by unfold inFault at hf ⊢; rw [hl]; exact hf
 have hs := sok hN a0 a1 hf
 have hs' := sok hN' a0 (by rw [hl]; exact a1) hf'
 have hb' := best_order (bok hN') _ hs' hr
 have hp' := (best_ok (bok hN') _ _ hs' (Nat.le_refl _)).1 hr
 have hok := best_ok (bok hN) _ _ hs (Nat.le_refl _)
 have hperm : (orderV l0' l1 l2' a f).1.Perm (qaq f 5) := hb'.1
 have hrng : ∀ x ∈ (orderV l0' l1 l2' a f).1, 0 ≤ x ∧ x < (l0.length : Int) := fun x hx => loops_in hN.n1 (fault_rng hf).1 (fault_rng hf).2 x ((hperm.mem_iff).1 hx)
 have hm := sl_mono (N := l1.length) (l0.length : Int) hD hF hW _ a 0 0 hrng a0 a1 (Int.le_refl _)
 have he : sl l0' l2' (duesI l0' l1) l1.length a 0 (orderV l0' l1 l2' a f).1 = (orderV l0' l1 l2' a f).2.1 := hb'.2.1
 have h0 : 0 ≤ (orderV l0' l1 l2' a f).2.1 := hp'.1
 cases hn : (orderV l0 l1 l2 a f).2.2 with
 | false =>
  have h1 : sl l0 l2 (duesI l0 l1) l1.length a 0 (orderV l0' l1 l2' a f).1 < 0 := hok.2 hn _ hperm
  omega
 | true =>
  have h1 : sl l0 l2 (duesI l0 l1) l1.length a 0 (orderV l0' l1 l2' a f).1 ≤ (orderV l0 l1 l2 a f).2.1 := (hok.1 hn).2.2.2 _ hperm
  exact ⟨rfl, by omega⟩
end
theorem frz_can0 : ∀ (t : List S37) (h can : Int), 0 ≤ h → (frz t h can).1 = can ∨ ∃ k, ∃ hk : k < t.length, (frz t h can).1 = h + k + 1 ∧ t[k].f0 = 0
 | [], h, can, _ => .inl rfl
 | s :: t, h, can, h0 => by
  have ih := frz_can0 t (h + 1)
  unfold frz
  by_cases hc : s.f0 = 0 ∧ can < 0
  ·
   rw [if_pos hc]
   split
   ·
    exact .inr ⟨0, by simp, by simp, hc.1⟩
   ·
    rcases ih (h + 1) (by omega) with h1 | ⟨k, hk, h1, h2⟩
    ·
     exact .inr ⟨0, by simp, by rw [h1]; simp, hc.1⟩
    ·
     exact .inr ⟨k + 1, by simpa using hk, by rw [h1]; push_cast; omega, by simpa using h2⟩
  ·
   rw [if_neg hc]
   split
   ·
    exact .inl rfl
   ·
    rcases ih can (by omega) with h1 | ⟨k, hk, h1, h2⟩
    ·
     exact .inl h1
    ·
     exact .inr ⟨k + 1, by simpa using hk, by rw [h1]; push_cast; omega, by simpa using h2⟩
theorem frz_must1 : ∀ (t : List S37) (h can : Int), 0 ≤ h → ∀ k (hk : k < t.length), t[k].f1 = 0 → 1 ≤ (frz t h can).2 ∧ (frz t h can).2 ≤ h + k + 1
 | [], h, can, _, k, hk, _ => by simp at hk
 | s :: t, h, can, h0, k, hk, hz => by
  unfold frz
  by_cases hc : s.f1 = 0
  ·
   rw [if_pos hc]
   dsimp only
   omega
  ·
   rw [if_neg hc]
   cases k with
   | zero => exact absurd (by simpa using hz) hc
   | succ k =>
    have := frz_must1 t (h + 1) (if s.f0 = 0 ∧ can < 0 then h + 1 else can) (by omega) k (by simpa using hk) (by simpa using hz)
    push_cast
    omega
section
variable {l0 : List S39} {l1 : List S37} {l2 : List (List Int)}
def mustV (l0 : List S39) (l1 : List S37) (i : Int) : Int := (frz (warmthV l0 l1 0 i) 0 (-1)).2
theorem can_zero (hv : validB l0 l1 l2 = true) (i : Int) (i0 : 0 ≤ i) (i1 : i < l0.length) (h1 : 1 ≤ canV l0 l1 i) : ∃ n : Nat, canV l0 l1 i = n ∧ 1 ≤ n ∧ n ≤ l1.length ∧ lowW (qaj l0 i) l1 n = 0 := by
 have hN := net_ok hv
 unfold canV at h1 ⊢
 rw [warmthV_eq hN i i0 i1] at h1 ⊢
 rcases frz_can0 (rowW (qaj l0 i) l1 l1.length) 0 (-1) (Int.le_refl _) with h | ⟨k, hk, h2, h3⟩
 ·
  omega
 ·
  rw [rowW_at] at h3
  rw [rowW_length] at hk
  exact ⟨k + 1, by rw [h2]; push_cast; omega, by omega, by omega, h3⟩
theorem must_zero (hv : validB l0 l1 l2 = true) (i : Int) (i0 : 0 ≤ i) (i1 : i < l0.length) (h1 : 0 ≤ mustV l0 l1 i) : ∃ n : Nat, mustV l0 l1 i = n ∧ 1 ≤ n ∧ n ≤ l1.length ∧ highW (qaj l0 i) l1 n = 0 := by
 have hN := net_ok hv
 unfold mustV at h1 ⊢
 rw [warmthV_eq hN i i0 i1] at h1 ⊢
 rcases frz_must (rowW (qaj l0 i) l1 l1.length) 0 (-1) with h | ⟨k, hk, h2, h3⟩
 ·
  omega
 ·
  rw [rowW_at] at h3
  rw [rowW_length] at hk
  exact ⟨k + 1, by rw [h2]; push_cast; omega, by omega, by omega, h3⟩
theorem must_le (hv : validB l0 l1 l2 = true) (i : Int) (i0 : 0 ≤ i) (i1 : i < l0.length) (n : Nat) (hn0 : 1 ≤ n) (hn : n ≤ l1.length) (hz : highW (qaj l0 i) l1 n = 0) : 1 ≤ mustV l0 l1 i ∧ mustV l0 l1 i ≤ n := by
 have hN := net_ok hv
 unfold mustV
 rw [warmthV_eq hN i i0 i1]
 have h := frz_must1 (rowW (qaj l0 i) l1 l1.length) 0 (-1) (Int.le_refl _) (n - 1) (by rw [rowW_length]; omega) (by rw [rowW_at]; rw [show n - 1 + 1 = n from by omega]; exact hz)
 omega
theorem wrap_warm (hN : NetOk l0 l1 l2) {L : S39} (hL : LoopOk L) (set : Int) (i : Nat) : ∀ n : Nat, n ≤ l1.length → lowW L l1 n ≤ lowW (wrapOne set i L) l1 n ∧ highW L l1 n ≤ highW (wrapOne set i L) l1 n := by
 intro n
 induction n with
 | zero =>
  intro _
  unfold wrapOne
  split <;> exact ⟨Int.le_refl _, Int.le_refl _⟩
 | succ n ih =>
  intro hn
  obtain ⟨h1, h2⟩ := ih (by omega)
  have hf := frost_at hN n (by omega)
  have hl := low_bd hN hL n (by omega)
  have hh := high_bd hN hL n (by omega)
  rw [low_succ, low_succ, high_succ, high_succ]
  unfold wrapOne at h1 h2 ⊢
  by_cases hb : bitB set (i : Int) = true
  ·
   rw [if_pos hb] at h1 h2 ⊢
   have a1 := hL.k0
   have a2 := hL.k1
   have a3 := hL.k2
   have a4 := hL.p0
   have a5 := hL.p1
   have a6 := hL.q0
   have a7 := hL.q1
   exact ⟨cold_mono (by omega) a7 (by show 0 ≤ L.f2.f1; omega) (Int.le_refl _) (by omega) hl.1 h1, cold_mono (by omega) a6 a4 (Int.le_refl _) hf.1 hh.1 h2⟩
  ·
   rw [if_neg hb] at h1 h2 ⊢
   exact ⟨Int.le_refl _, Int.le_refl _⟩
theorem wrap_hours (hv : validB l0 l1 l2 = true) (set : Int) (i : Int) (i0 : 0 ≤ i) (i1 : i < l0.length) :
  (canV (wrappedL l0 set) l1 i < 0 ∨ (0 ≤ canV l0 l1 i ∧ canV l0 l1 i ≤ canV (wrappedL l0 set) l1 i)) ∧ (mustV (wrappedL l0 set) l1 i < 0 ∨ (0 ≤ mustV l0 l1 i ∧ mustV l0 l1 i ≤ mustV (wrappedL l0 set) l1 i)) ∧ dueI l0 l1 i ≤ dueI (wrappedL l0 set) l1 i := by
 have hN := net_ok hv
 have hv' := valid_wrapped set hv
 obtain ⟨k, rfl⟩ := Int.eq_ofNat_of_zero_le i0
 have hk : k < l0.length := by omega
 have hL := hN.loops _ (rdT39_mem i0 i1)
 have i1' : (k : Int) < (wrappedL l0 set).length := by rw [wrappedL_length]; exact i1
 have hw := wrap_warm hN hL set k
 have e := rdT39_wrapped l0 set k hk
 have hb := can_bd l0 l1 (k : Int)
 have hb' := can_bd (wrappedL l0 set) l1 (k : Int)
 have hc : canV (wrappedL l0 set) l1 (k : Int) < 0 ∨ (0 ≤ canV l0 l1 (k : Int) ∧ canV l0 l1 (k : Int) ≤ canV (wrappedL l0 set) l1 (k : Int)) := by
  by_cases h : canV (wrappedL l0 set) l1 (k : Int) < 0
  ·
   exact .inl h
  ·
   right
   obtain ⟨n, h1, h2, h3, h4⟩ := can_zero hv' (k : Int) i0 i1' (by omega)
   rw [e] at h4
   have hl := low_bd hN hL n h3
   have := can_le hv (k : Int) i0 i1 n h2 h3 (by have := (hw n h3).1; omega)
   omega
 refine ⟨hc, ?_, ?_⟩
 ·
  by_cases h : mustV (wrappedL l0 set) l1 (k : Int) < 0
  ·
   exact .inl h
  ·
   right
   obtain ⟨n, h1, h2, h3, h4⟩ := must_zero hv' (k : Int) i0 i1' (by omega)
   rw [e] at h4
   have hl := high_bd hN hL n h3
   have := must_le hv (k : Int) i0 i1 n h2 h3 (by have := (hw n h3).2; omega)
   omega
 ·
  unfold dueI
  split <;> split <;> omega
end
def longOne (more : Int) (L : S39) : S39 := ⟨L.f0, L.f1, L.f2, L.f3, L.f4, L.f5, L.f6, ⟨L.f7.f0, min 72 (L.f7.f1 + more)⟩⟩
def longL (l0 : List S39) (i : Nat) (more : Int) : List S39 := l0.set i (longOne more (qaj l0 i))
def longRow (i : Nat) (more : Int) (n : Nat) (row : List Int) : List Int := row.mapIdx fun k x => if k < n ∧ k ≠ i then min 72 (x + more) else x
def longW (l2 : List (List Int)) (i : Nat) (more : Int) : List (List Int) := l2.set i (longRow i more (rd_L1 l2 i).length (rd_L1 l2 i))
theorem longRow_length (i : Nat) (more : Int) (n : Nat) (row : List Int) : (longRow i more n row).length = row.length := by simp [longRow]
theorem longRow_zero (i : Nat) (more : Int) (row : List Int) : longRow i more 0 row = row := by
 refine List.ext_getElem (by simp [longRow]) fun k h1 h2 => ?_
 simp [longRow]
theorem longRow_at (i : Nat) (more : Int) (n : Nat) (row : List Int) (k : Nat) (hk : k < row.length) : rd (longRow i more n row) (k : Int) = if k < n ∧ k ≠ i then min 72 (rd row (k : Int) + more) else rd row (k : Int) := by
 simp [rd, longRow, hk]
theorem longRow_succ_no (i : Nat) (more : Int) (row : List Int) : longRow i more (i + 1) row = longRow i more i row := by
 refine List.ext_getElem (by simp [longRow]) fun k h1 h2 => ?_
 simp only [longRow, List.getElem_mapIdx]
 by_cases h : k < i ∧ k ≠ i
 ·
  rw [if_pos h, if_pos ⟨by omega, h.2⟩]
 ·
  rw [if_neg h, if_neg (by omega)]
theorem longRow_succ (i : Nat) (more : Int) (n : Nat) (row : List Int) (hn : n < row.length) (hne : n ≠ i) : longRow i more (n + 1) row = (longRow i more n row).set n (min 72 (rd row (n : Int) + more)) := by
 refine List.ext_getElem (by simp [longRow]) fun k h1 h2 => ?_
 rw [List.getElem_set]
 simp only [longRow, List.getElem_mapIdx]
 by_cases he : n = k
 ·
  subst he
  rw [if_pos ⟨by omega, hne⟩, if_pos rfl, rd_at row n hn]
 ·
  rw [if_neg he]
  by_cases h : k < n ∧ k ≠ i
  ·
   rw [if_pos h, if_pos ⟨by omega, h.2⟩]
  ·
   rw [if_neg h, if_neg (by omega)]
section
variable {l0 : List S39} {l1 : List S37} {l2 : List (List Int)}
theorem longL_length (i : Nat) (more : Int) : (longL l0 i more).length = l0.length := by simp [longL]
theorem rdT39_long (i : Nat) (more : Int) (j : Nat) (hj : j < l0.length) : qaj (longL l0 i more) (j : Int) = if j = i then longOne more (qaj l0 (j : Int)) else qaj l0 (j : Int) := by
 by_cases h : j = i
 ·
  subst h
  rw [if_pos rfl]
  simp [qaj, longL, hj]
 ·
  rw [if_neg h]
  simp [qaj, longL, hj, List.getElem_set, Ne.symm h]
theorem longOne_loop {L : S39} {more : Int} (m0 : 0 ≤ more) (h : loopB L = true) : loopB (longOne more L) = true := by
 have hL := loop_ok h
 have b6 := hL.x0
 have b7 := hL.x1
 have b8 := hL.x2
 unfold loopB spanB inB at h ⊢
 simp only [Bool.and_eq_true, decide_eq_true_eq] at h ⊢
 obtain ⟨h1, h2, h3, h4, h5, h6, h7, h8, h9, h10⟩ := h
 refine ⟨h1, h2, h3, h4, h5, h6, h7, h8, h9, b6, ?_, ?_⟩
 ·
  show L.f7.f0 ≤ min 72 (L.f7.f1 + more)
  omega
 ·
  show min 72 (L.f7.f1 + more) ≤ 72
  omega
theorem long_valid (hv : validB l0 l1 l2 = true) (i : Nat) (hi : i < l0.length) (more : Int) (m0 : 0 ≤ more) : validB (longL l0 i more) l1 (longW l2 i more) = true := by
 have hN := net_ok hv
 have hm := hN.m
 unfold validB at hv ⊢
 rw [longL_length]
 simp only [Bool.and_eq_true, List.all_eq_true] at hv ⊢
 obtain ⟨h1, h2, h3, h4, h5, h6⟩ := hv
 refine ⟨by simpa [longW] using h1, ?_, h3, h4, fun L hL => ?_, h6⟩
 ·
  unfold waysB at h2 ⊢
  rw [List.all_eq_true] at h2 ⊢
  intro j hj
  have hjl : j < l2.length := by simpa [longW] using hj
  have hr := h2 j (by simpa using hjl)
  by_cases he : j = i
  ·
   subst he
   have e1 : (longW l2 j more).getD j [] = longRow j more (rd_L1 l2 j).length (rd_L1 l2 j) := by simp [longW, hjl]
   have e2 : rd_L1 l2 (j : Int) = l2.getD j [] := by simp [rd_L1]
   rw [e1, e2]
   generalize l2.getD j [] = row at hr
   unfold rowB inB at hr ⊢
   rw [longRow_length]
   simp only [Bool.and_eq_true, decide_eq_true_eq, List.all_eq_true] at hr ⊢
   obtain ⟨r1, r2, r3⟩ := hr
   have hjr : j < row.length := by omega
   refine ⟨r1, ?_, fun x hx => ?_⟩
   ·
    rw [longRow_at _ _ _ _ _ hjr, if_neg (by omega), r2]
   ·
    obtain ⟨k, hk, rfl⟩ := List.mem_iff_getElem.1 hx
    have hk' : k < row.length := by simpa [longRow] using hk
    have := r3 _ (List.getElem_mem hk')
    simp only [longRow, List.getElem_mapIdx]
    split <;> omega
  ·
   have e1 : (longW l2 i more).getD j [] = l2.getD j [] := by simp [longW, hjl, List.getElem_set, Ne.symm he]
   rw [e1]
   exact hr
 ·
  unfold longL at hL
  rcases List.mem_or_eq_of_mem_set hL with hm' | rfl
  ·
   exact h5 L hm'
  ·
   exact longOne_loop m0 (h5 _ (rdT39_mem (by omega) (by omega)))
theorem long_due (i : Nat) (more : Int) (j : Nat) (hj : j < l0.length) : dueI (longL l0 i more) l1 (j : Int) = dueI l0 l1 (j : Int) := by
 have e := rdT39_long (l0 := l0) i more j hj
 have hw : warmthV (longL l0 i more) l1 0 (j : Int) = warmthV l0 l1 0 (j : Int) := by
  unfold warmthV leastV greatestV
  rw [e]
  split <;> rfl
 unfold dueI canV
 rw [hw]
theorem long_order (hv : validB l0 l1 l2 = true) (i : Nat) (hi : i < l0.length) (more : Int) (m0 : 0 ≤ more) (a f : Int) (a0 : 0 ≤ a) (a1 : a ≤ l0.length) (hf : inFault l0 f = true) (hr : (orderV (longL l0 i more) l1 (longW l2 i more) a f).2.2 = true) :
  (orderV l0 l1 l2 a f).2.2 = true ∧ (orderV (longL l0 i more) l1 (longW l2 i more) a f).2.1 ≤ (orderV l0 l1 l2 a f).2.1 := by
 have hN := net_ok hv
 have hm := hN.m
 refine order_mono hv (long_valid hv i hi more m0) (longL_length i more) (fun j j0 j1 => ?_) (fun j j0 j1 => ?_) (fun p x p0 p1 x0 x1 => ?_) a f a0 a1 hf hr
 ·
  rw [rd_duesI _ _ _ j0 (by rw [longL_length]; exact j1), rd_duesI _ _ _ j0 j1]
  obtain ⟨n, rfl⟩ := Int.eq_ofNat_of_zero_le j0
  rw [long_due i more n (by omega)]
  exact Int.le_refl _
 ·
  obtain ⟨n, rfl⟩ := Int.eq_ofNat_of_zero_le j0
  have hL := hN.loops _ (rdT39_mem j0 j1)
  have := hL.x2
  rw [rdT39_long i more n (by omega)]
  split
  ·
   show _ ≤ min 72 _
   omega
  ·
   exact Int.le_refl _
 ·
  obtain ⟨n, rfl⟩ := Int.eq_ofNat_of_zero_le p0
  obtain ⟨y, rfl⟩ := Int.eq_ofNat_of_zero_le x0
  have hb := bok_ways hN (n : Int) (y : Int) p0 p1 x0 x1
  have hn : n < l2.length := by omega
  by_cases he : n = i
  ·
   subst he
   have e1 : rd_L1 (longW l2 n more) (n : Int) = longRow n more (rd_L1 l2 n).length (rd_L1 l2 n) := by
    show (longW l2 n more).getD (n : Int).toNat [] = _
    simp [longW, hn]
   rw [e1, show ((y : Int) + 1) = ((y + 1 : Nat) : Int) from by omega, longRow_at _ _ _ _ _ (by omega)]
   rw [show ((y : Int) + 1) = ((y + 1 : Nat) : Int) from by omega] at hb
   split <;> omega
  ·
   have e1 : rd_L1 (longW l2 i more) (n : Int) = rd_L1 l2 (n : Int) := by
    show (longW l2 i more).getD (n : Int).toNat [] = l2.getD (n : Int).toNat []
    simp [longW, hn, List.getElem_set, Ne.symm he]
   rw [e1]
   exact Int.le_refl _
theorem wrap_order (hv : validB l0 l1 l2 = true) (set : Int) (a f : Int) (a0 : 0 ≤ a) (a1 : a ≤ l0.length) (hf : inFault l0 f = true) (hr : (orderV l0 l1 l2 a f).2.2 = true) :
  (orderV (wrappedL l0 set) l1 l2 a f).2.2 = true ∧ (orderV l0 l1 l2 a f).2.1 ≤ (orderV (wrappedL l0 set) l1 l2 a f).2.1 := by
 refine order_mono (valid_wrapped set hv) hv (wrappedL_length l0 set).symm (fun j j0 j1 => ?_) (fun j j0 j1 => ?_) (fun p x _ _ _ _ => Int.le_refl _) a f a0 (by rw [wrappedL_length]; exact a1) (by rw [inFault_wrapped]; exact hf) hr
 ·
  rw [wrappedL_length] at j1
  rw [rd_duesI _ _ _ j0 j1, rd_duesI _ _ _ j0 (by rw [wrappedL_length]; exact j1)]
  exact (wrap_hours hv set j j0 j1).2.2
 ·
  rw [f7_wrapped]
  exact Int.le_refl _
end
end Go.Proofs.Ytipphcjgdebecaa.PA
namespace Go.Proofs.Ytipphcjgdebecaa.PA
open Go.RowKit Go.Proofs.YtipphcjgdebecaaW.PrintWords Go.Proofs.YtipphcjgdebecaaW.PrintLast Go.Proofs.YtipphcjgdebecaaW.PrintMore
attribute [local go_sem] qas qau max_two min_two qao qap qat qav
theorem eqA37 (d : Nat) (w : World) (x0 y0 : Int) (x1 y1 : Int) :
  (Op.equalIn (d + 2) 37 (.agg #[.int .i64 x0, .int .i64 x1]) (.agg #[.int .i64 y0, .int .i64 y1])).run Try.prog w = .ok (x0 == y0 && (x1 == y1)) w := by
 refine eqA_of Try.underlying37 (by kernel_rfl) ?_
 refine eqf_cons (by rfl) (by go_simp; rfl) (by go_simp; rfl) (by go_simp) ?_
 exact eqf_last (by rfl) (by go_simp; rfl) (by go_simp; rfl) (by go_simp)
end Go.Proofs.Ytipphcjgdebecaa.PA
namespace Go.Proofs.Ytipphcjgdebecaa.PA
open Go.RowKit Go.Proofs.YtipphcjgdebecaaW.PrintWords Go.Proofs.YtipphcjgdebecaaW.PrintLast Go.Proofs.YtipphcjgdebecaaW.PrintMore
attribute [local go_sem] qas qau max_two min_two qao qap qat qav
attribute [local go_sem high] eqA37
end Go.Proofs.Ytipphcjgdebecaa.PA
namespace Go.Proofs.Ytipphcjgdebecaa.PA
open Go.RowKit Go.Proofs.YtipphcjgdebecaaW.PrintWords Go.Proofs.YtipphcjgdebecaaW.PrintLast Go.Proofs.YtipphcjgdebecaaW.PrintMore
attribute [local go_sem] qas qau max_two min_two qao qap qat qav
end Go.Proofs.Ytipphcjgdebecaa.PA
namespace Go.Proofs.Ytipphcjgdebecaa.PA
open Go.RowKit Go.Shelf Go.Proofs.YtipphcjgdebecaaW.PrintWords Go.Proofs.YtipphcjgdebecaaW.PrintLast Go.Proofs.YtipphcjgdebecaaW.PrintMore
attribute [local go_sem] qas qau max_two min_two qao qap qat qav
theorem pfreezes_eq (l0 : List S39) (l1 : List S37) (l2 : List (List Int)) (i : Int) :
  pipe_Freezes.f l0 l1 l2 i = some (if (validB l0 l1 l2 && inB i 0 (wrap64 ((l0.length : Int) - 1))) = true then ((frz (warmthV l0 l1 0 i) 0 (-1)).1, (frz (warmthV l0 l1 0 i) 0 (-1)).2, 0) else (0, 0, 2)) := by
 unfold pipe_Freezes.f
 cases hv : validB l0 l1 l2 with
 | false => simp
 | true =>
  have hN := net_ok hv
  have hh := hN.h1
  cases hi : inB i 0 (wrap64 ((l0.length : Int) - 1)) with
  | false => simp
  | true =>
   obtain ⟨i0, i1⟩ := (isloop_iff hN i).1 hi
   rw [if_pos (by decide)]
   unfold pipe_net_freezes.f
   rw [if_pos ⟨i0, i1, by decide, by omega⟩]
   simp
structure SV where
 A : Option Addr
 n : Nat
 c : Nat
def SV.enc (v : SV) : Value := .slice v.A v.n v.c
abbrev kSV : Kd SV := Kd.scalar SV.enc (fun _ => rfl)
def zSV : SV := ⟨none, 0, 0⟩
def rdSV (ps : List SV) (i : Int) : SV := ps.getD i.toNat zSV
theorem sv_rows {w : World} {A : Option Addr} {xs : List (List Int)} (h : Kd.C (Kd.slice 3 (Kd.int .i64)) w A xs.length xs) :
  ∃ ps : List SV, ps.length = xs.length ∧ Kd.C kSV w A xs.length ps ∧ ∀ i : Nat, i < xs.length → (rdSV ps i).n = (rd_L1 xs i).length ∧ (rdSV ps i).n ≤ (rdSV ps i).c ∧ Kd.C (Kd.int .i64) w (rdSV ps i).A (rd_L1 xs i).length (rd_L1 xs i) := by
 obtain ⟨h1, h2, h3⟩ := h
 by_cases h0 : 0 < xs.length
 ·
  obtain ⟨ad, e, hc⟩ := h3 h0
  have hx : ∀ j : Nat, ∃ v : SV, j < xs.length → v.n = (xs.getD j []).length ∧ v.n ≤ v.c ∧ Kd.C (Kd.int .i64) w v.A (xs.getD j []).length (xs.getD j []) ∧ w.cell? (ad.add j) = some v.enc := by
   intro j
   by_cases hj : j < xs.length
   ·
    obtain ⟨c, hl, ⟨A', c', rfl, hle, hC⟩, hcell⟩ := hc j xs[j] (List.getElem?_eq_getElem hj)
    refine ⟨⟨A', xs[j].length, c'⟩, fun _ => ?_⟩
    have := hcell 0 _ rfl
    rw [show j * (Kd.slice 3 (Kd.int .i64)).sz + 0 = j from by show j * 1 + 0 = j; omega] at this
    rw [List.getD_eq_getElem?_getD, List.getElem?_eq_getElem hj]
    exact ⟨rfl, hle, hC, this⟩
   ·
    exact ⟨zSV, fun h => absurd h hj⟩
  let f : Nat → SV := fun j => Classical.choose (hx j)
  have hf : ∀ j, j < xs.length → (f j).n = (xs.getD j []).length ∧ (f j).n ≤ (f j).c ∧ Kd.C (Kd.int .i64) w (f j).A (xs.getD j []).length (xs.getD j []) ∧ w.cell? (ad.add j) = some (f j).enc := fun j => Classical.choose_spec (hx j)
  refine ⟨(List.range xs.length).map f, by simp, ⟨by simp, h2, fun _ => ⟨ad, e, fun j p hj => ?_⟩⟩, fun i hi => ?_⟩
  ·
   obtain ⟨hjl, hp⟩ := List.getElem?_eq_some_iff.1 hj
   have hjx : j < xs.length := by simpa using hjl
   have hp' : p = f j := by rw [← hp]; simp
   subst hp'
   refine ⟨[(f j).enc], rfl, rfl, fun i u hu => ?_⟩
   cases i with
   | zero =>
    obtain rfl : (f j).enc = u := by simpa using hu
    rw [show j * (kSV).sz + 0 = j from by show j * 1 + 0 = j; omega]
    exact (hf j hjx).2.2.2
   | succ i => simp at hu
  ·
   have e1 : rdSV ((List.range xs.length).map f) (i : Int) = f i := by simp [rdSV, hi]
   rw [e1]
   have e2 : rd_L1 xs (i : Int) = xs.getD i [] := by simp [rd_L1]
   rw [e2]
   exact ⟨(hf i hi).1, (hf i hi).2.1, (hf i hi).2.2.1⟩
 ·
  have hx : xs.length = 0 := by omega
  exact ⟨[], by simp [hx], ⟨by simp [hx], by omega, fun h => absurd h h0⟩, fun i hi => absurd hi (by omega)⟩
theorem svrow_at {W : World} {base go n c : Nat} {ok : Nat → Prop} {ps : List SV} (h : kSV.R 47 W base ok (.slice (some ⟨go, 0, none⟩) n c) ps) (k : Nat) (hk : k < n) : W.cell? ⟨go, k, none⟩ = some (rdSV ps k).enc := by
 obtain ⟨ad, c', e, _, hK, hc⟩ := Kd.C_get (Kd.R_reads' h).2.2 zSV (k : Int) (by omega) (by have := (Kd.R_reads' h).1; omega)
 cases e
 have hK' : c' = [(ps.getD (k : Int).toNat zSV).enc] := hK
 have h1 := hc 0 (rdSV ps k).enc (by rw [hK']; rfl)
 have e2 : (⟨go, 0, none⟩ : Addr).add ((k : Int).toNat * 1 + 0) = ⟨go, k, none⟩ := by simp [Addr.add]; try omega
 exact e2 ▸ h1
theorem introw_at {W : World} {base gi n c : Nat} {ok : Nat → Prop} {xs : List Int} (h : (Kd.int .i64).R 3 W base ok (.slice (some ⟨gi, 0, none⟩) n c) xs) (k : Nat) (hk : k < n) : W.cell? ⟨gi, k, none⟩ = some (.int .i64 (rd xs k)) := by
 obtain ⟨ad, c', e, _, hK, hc⟩ := Kd.C_get (Kd.R_reads' h).2.2 (0 : Int) (k : Int) (by omega) (by have := (Kd.R_reads' h).1; omega)
 cases e
 have hK' : c' = [.int .i64 (xs.getD (k : Int).toNat 0)] := hK
 have h1 := hc 0 (.int .i64 (rd xs k)) (by rw [hK']; simp [rd])
 have e2 : (⟨gi, 0, none⟩ : Addr).add ((k : Int).toNat * 1 + 0) = ⟨gi, k, none⟩ := by simp [Addr.add]; try omega
 exact e2 ▸ h1
structure MOI (w : World) (gb gx : Nat) (nb cs : Array Value) (W : World) : Prop where
 b : W.heap[gb]? = some (.cells nb 26 (0, 0))
 x : W.heap[gx]? = some (.cells cs 26 (0, 0))
 hb : Below w.heap.size w W
 ge : w.heap.size ≤ gx
 ne : gb ≠ gx
theorem MOI.below {w W W' : World} {gb gx : Nat} {nb cs : Array Value} (h : MOI w gb gx nb cs W) (hb : Below W.heap.size W W') : MOI w gb gx nb cs W' := ⟨qae h.b hb, qae h.x hb, qad h.hb hb, h.ge, h.ne⟩
theorem MOI.set {w W : World} {gb gx : Nat} {nb cs : Array Value} (h : MOI w gb gx nb cs W) (i : Nat) (v : Value) : MOI w gb gx nb (cs.setIfInBounds i v) (W.setCell ⟨gx, i, none⟩ v) := ⟨blk_far (p := ⟨gx, i, none⟩) h.b h.ne v, blk_set h.x i v, qai h.hb h.ge, h.ge, h.ne⟩
theorem MOI.far {w W : World} {gb gx g : Nat} {nb cs : Array Value} (h : MOI w gb gx nb cs W) (hg : w.heap.size ≤ g) (h1 : gb ≠ g) (h2 : gx ≠ g) (i : Nat) (v : Value) : MOI w gb gx nb cs (W.setCell ⟨g, i, none⟩ v) := ⟨blk_far (p := ⟨g, i, none⟩) h.b h1 v, blk_far (p := ⟨g, i, none⟩) h.x h2 v, qai h.hb hg, h.ge, h.ne⟩
theorem MOI.grown {w W W' : World} {gb gx : Nat} {nb cs : Array Value} (h : MOI w gb gx nb cs W) (hg : W.grownBy W' none) (hB : Below w.heap.size w W') : MOI w gb gx nb cs W' := ⟨blk_grown h.b hg (by simp), blk_grown h.x hg (by simp), hB, h.ge, h.ne⟩
structure MO5 (w : World) (gb gx gr : Nat) (nb cs : Array Value) (vc : Nat) (xs : List S39) (W : World) : Prop where
 m : MOI w gb gx nb cs W
 r : k39.R 39 W w.heap.size (fun _ => True) (.slice (some ⟨gr, 0, none⟩) xs.length vc) xs
theorem MO5.drew {w W : World} {gb gx gr : Nat} {nb cs : Array Value} {vc : Nat} {xs : List S39} (h : MO5 w gb gx gr nb cs vc xs W) : MO5 w gb gx gr nb cs vc xs W.drew := ⟨h.m.below (below_drew (Below.refl _ _)), Kd.R_below h.r (below_drew (Below.refl _ _))⟩
theorem MO5.below {w W W' : World} {gb gx gr : Nat} {nb cs : Array Value} {vc : Nat} {xs : List S39} (h : MO5 w gb gx gr nb cs vc xs W) (hb : Below W.heap.size W W') : MO5 w gb gx gr nb cs vc xs W' := ⟨h.m.below hb, Kd.R_below h.r hb⟩
theorem MO5.set {w W : World} {gb gx gr : Nat} {nb cs : Array Value} {vc : Nat} {xs : List S39} (h : MO5 w gb gx gr nb cs vc xs W) (i : Nat) (v : Value) : MO5 w gb gx gr nb (cs.setIfInBounds i v) vc xs (W.setCell ⟨gx, i, none⟩ v) := ⟨h.m.set i v, Kd.R_set h.r h.m.x (by decide) i v⟩
theorem MO5.far {w W : World} {gb gx gr : Nat} {nb cs : Array Value} {vc : Nat} {xs : List S39} (h : MO5 w gb gx gr nb cs vc xs W) {g t : Nat} {cells : Array Value} (hg : w.heap.size ≤ g) (hb : W.heap[g]? = some (.cells cells t (0, 0))) (ht : t ≠ 26) (ht2 : t ≠ 39) (hE : ∀ q, q ∈ 39 :: k39.E → q ≠ t) (i : Nat) (v : Value) : MO5 w gb gx gr nb cs vc xs (W.setCell ⟨g, i, none⟩ v) := ⟨h.m.far hg (blk_ne h.m.b hb (Ne.symm ht)) (blk_ne h.m.x hb (Ne.symm ht)) i v, Kd.R_set h.r hb hE i v⟩
structure MO7 (w : World) (gb gx gr go : Nat) (nb cs : Array Value) (vc no vo : Nat) (xs : List S39) (ps : List SV) (W : World) : Prop where
 m : MO5 w gb gx gr nb cs vc xs W
 o : kSV.R 47 W w.heap.size (fun _ => True) (.slice (some ⟨go, 0, none⟩) no vo) ps
theorem MO7.below {w W W' : World} {gb gx gr go : Nat} {nb cs : Array Value} {vc no vo : Nat} {xs : List S39} {ps : List SV} (h : MO7 w gb gx gr go nb cs vc no vo xs ps W) (hb : Below W.heap.size W W') : MO7 w gb gx gr go nb cs vc no vo xs ps W' := ⟨h.m.below hb, Kd.R_below h.o hb⟩
structure MO8 (w : World) (gb gx gr go gi : Nat) (nb cs : Array Value) (vc no vo ni vi : Nat) (xs : List S39) (ps : List SV) (row : List Int) (W : World) : Prop where
 m : MO7 w gb gx gr go nb cs vc no vo xs ps W
 q : (Kd.int .i64).R 3 W w.heap.size (fun _ => True) (.slice (some ⟨gi, 0, none⟩) ni vi) row
theorem MO8.below {w W W' : World} {gb gx gr go gi : Nat} {nb cs : Array Value} {vc no vo ni vi : Nat} {xs : List S39} {ps : List SV} {row : List Int} (h : MO8 w gb gx gr go gi nb cs vc no vo ni vi xs ps row W) (hb : Below W.heap.size W W') : MO8 w gb gx gr go gi nb cs vc no vo ni vi xs ps row W' := ⟨h.m.below hb, Kd.R_below h.q hb⟩
theorem R_blk {α : Type} {d : Kd α} {e : Nat} {W : World} {base g n c : Nat} {ok : Nat → Prop} {xs : List α} (h : d.R e W base ok (.slice (some ⟨g, 0, none⟩) n c) xs) (hn : 0 < n) : base ≤ g ∧ ∃ cells, W.heap[g]? = some (.cells cells e (0, 0)) := by
 obtain ⟨g', c', e', h1, h2, cs, h3⟩ := Kd.R_form h (by have := (Kd.R_reads' h).1; omega)
 injection e' with e1 _ _
 injection e1 with e1
 injection e1 with e1 _ _
 subst e1
 exact ⟨h1, cs, h3⟩
theorem MO7.put {w W : World} {gb gx gr go : Nat} {nb cs : Array Value} {vc no vo : Nat} {xs : List S39} {ps : List SV} (h : MO7 w gb gx gr go nb cs vc no vo xs ps W) (hn : 0 < no) (i : Nat) (v : SV) : MO7 w gb gx gr go nb cs vc no vo xs (ps.set i v) (W.setCell ⟨go, i, none⟩ v.enc) := by
 obtain ⟨h1, cells, h2⟩ := R_blk h.o hn
 exact ⟨h.m.far h1 h2 (by decide) (by decide) (by decide) i _, Kd.R_putn h.o (i : Int) v⟩
theorem MO8.put {w W : World} {gb gx gr go gi : Nat} {nb cs : Array Value} {vc no vo ni vi : Nat} {xs : List S39} {ps : List SV} {row : List Int} (h : MO8 w gb gx gr go gi nb cs vc no vo ni vi xs ps row W) (hn : 0 < ni) (i : Nat) (x : Int) : MO8 w gb gx gr go gi nb cs vc no vo ni vi xs ps (row.set i x) (W.setCell ⟨gi, i, none⟩ (.int .i64 x)) := by
 obtain ⟨h1, cells, h2⟩ := R_blk h.q hn
 exact ⟨⟨h.m.m.far h1 h2 (by decide) (by decide) (by decide) i _, Kd.R_set h.m.o h2 (by decide) i _⟩, Kd.R_putn h.q (i : Int) x⟩
theorem ways_read {w W : World} {l : List (List Int)} {ps : List SV} {go gi no vo ni vi base i : Nat} {ok ok2 : Nat → Prop} {row : List Int} (hl : ps.length = l.length) (hps : ∀ j : Nat, j < l.length → (rdSV ps j).n = (rd_L1 l j).length ∧ (rdSV ps j).n ≤ (rdSV ps j).c ∧ Kd.C (Kd.int .i64) w (rdSV ps j).A (rd_L1 l j).length (rd_L1 l j))
  (hb : Below w.heap.size w W) (hi : i < l.length) (hm : l.length ≤ 9223372036854775807) (ho : kSV.R 47 W base ok (.slice (some ⟨go, 0, none⟩) no vo) (ps.set i ⟨some ⟨gi, 0, none⟩, ni, vi⟩)) (hq : (Kd.int .i64).R 3 W base ok2 (.slice (some ⟨gi, 0, none⟩) ni vi) row) :
  Kd.C (Kd.slice 3 (Kd.int .i64)) W (some ⟨go, 0, none⟩) l.length (l.set i row) := by
 obtain ⟨e1, e2, hC⟩ := Kd.R_reads' ho
 obtain ⟨q1, q2, hQ⟩ := Kd.R_reads' hq
 have hno : no = l.length := by rw [e1]; simp [hl]
 refine ⟨by simp, hm, fun _ => ⟨_, rfl, fun j p hj => ?_⟩⟩
 obtain ⟨hjl, hp⟩ := List.getElem?_eq_some_iff.1 hj
 have hj' : j < l.length := by simpa using hjl
 have hat := svrow_at ho j (by omega)
 rw [List.getElem_set] at hp
 by_cases he : i = j
 ·
  subst he
  rw [if_pos rfl] at hp
  subst hp
  have e3 : rdSV (ps.set i ⟨some ⟨gi, 0, none⟩, ni, vi⟩) (i : Int) = ⟨some ⟨gi, 0, none⟩, ni, vi⟩ := by simp [rdSV, hl, hi]
  rw [e3] at hat
  refine ⟨[.slice (some ⟨gi, 0, none⟩) row.length vi], rfl, ⟨_, _, rfl, by omega, hQ⟩, fun k u hu => ?_⟩
  cases k with
  | zero =>
   obtain rfl : Value.slice (some ⟨gi, 0, none⟩) row.length vi = u := by simpa using hu
   rw [← q1]
   have e4 : (⟨go, 0, none⟩ : Addr).add (i * 1 + 0) = ⟨go, i, none⟩ := by simp [Addr.add]; try omega
   exact e4 ▸ hat
  | succ k => simp at hu
 ·
  rw [if_neg he] at hp
  have e3 : rdSV (ps.set i ⟨some ⟨gi, 0, none⟩, ni, vi⟩) (j : Int) = rdSV ps (j : Int) := by simp [rdSV, List.getElem?_set, he]
  rw [e3] at hat
  obtain ⟨p1, p2, p3⟩ := hps j hj'
  have e5 : rd_L1 l (j : Int) = p := by rw [← hp]; simp [rd_L1, hj']
  rw [e5] at p1 p3
  refine ⟨[.slice (rdSV ps j).A p.length (rdSV ps j).c], rfl, ⟨_, _, rfl, by omega, Kd.qak p3 hb⟩, fun k u hu => ?_⟩
  cases k with
  | zero =>
   obtain rfl : Value.slice (rdSV ps j).A p.length (rdSV ps j).c = u := by simpa using hu
   have e4 : (⟨go, 0, none⟩ : Addr).add (j * 1 + 0) = ⟨go, j, none⟩ := by simp [Addr.add]; try omega
   have e6 : (rdSV ps (j : Int)).enc = .slice (rdSV ps j).A p.length (rdSV ps j).c := by rw [← p1]; rfl
   rw [e6] at hat
   exact e4 ▸ hat
  | succ k => simp at hu
theorem MO5.grown {w W W' : World} {gb gx gr : Nat} {nb cs : Array Value} {vc : Nat} {xs : List S39} (h : MO5 w gb gx gr nb cs vc xs W) (hg : W.grownBy W' none) (hB : Below w.heap.size w W') : MO5 w gb gx gr nb cs vc xs W' := ⟨h.m.grown hg hB, Kd.R_grown h.r hg (fun _ _ => by simp)⟩
theorem MO7.grown {w W W' : World} {gb gx gr go : Nat} {nb cs : Array Value} {vc no vo : Nat} {xs : List S39} {ps : List SV} (h : MO7 w gb gx gr go nb cs vc no vo xs ps W) (hg : W.grownBy W' none) (hB : Below w.heap.size w W') : MO7 w gb gx gr go nb cs vc no vo xs ps W' := ⟨h.m.grown hg hB, Kd.R_grown h.o hg (fun _ _ => by simp)⟩
theorem hsvat {w : World} {A : Option Addr} {n : Nat} {ps : List SV} (h : Kd.C kSV w A n ps) (k : Nat) (hk : k < n) : ∃ ad, A = some ad ∧ w.cell? (ad.add k) = some (rdSV ps k).enc := by
 obtain ⟨ad, c', e, _, hK, hc⟩ := Kd.C_get h zSV (k : Int) (by omega) (by omega)
 have hK' : c' = [(ps.getD (k : Int).toNat zSV).enc] := hK
 have h1 := hc 0 (rdSV ps k).enc (by rw [hK']; rfl)
 refine ⟨ad, e, ?_⟩
 have e2 : ((k : Int).toNat * kSV.sz + 0) = k := by show (k : Int).toNat * 1 + 0 = k; omega
 rw [e2] at h1
 exact h1
theorem long_read {w W : World} {l : List (List Int)} {ps : List SV} {go gi no vo ni vi base i : Nat} {ok ok2 : Nat → Prop} {row : List Int} (a4 : Int) (hr : row = rd_L1 l i) (hl : ps.length = l.length) (hps : ∀ j : Nat, j < l.length → (rdSV ps j).n = (rd_L1 l j).length ∧ (rdSV ps j).n ≤ (rdSV ps j).c ∧ Kd.C (Kd.int .i64) w (rdSV ps j).A (rd_L1 l j).length (rd_L1 l j))
  (hb : Below w.heap.size w W) (hi : i < l.length) (hm : l.length ≤ 9223372036854775807) (ho : kSV.R 47 W base ok (.slice (some ⟨go, 0, none⟩) no vo) (ps.set i ⟨some ⟨gi, 0, none⟩, ni, vi⟩)) (hq : (Kd.int .i64).R 3 W base ok2 (.slice (some ⟨gi, 0, none⟩) ni vi) (longRow i a4 row.length row)) :
  Kd.C (Kd.slice 3 (Kd.int .i64)) W (some ⟨go, 0, none⟩) l.length (longW l i a4) := by
 subst hr
 exact ways_read hl hps hb hi hm ho hq
def OrdL (s e_ : Int) (W : World) (e : Ending) (w' : World) : Prop := ∃ u : Value, e = .returned (.tuple #[u, .int .i64 s, .int .i64 e_]) ∧ Below W.heap.size W w'
def ordS (v : Way) : Int := if v.2.2 = true then v.2.1 else 0
def ordE (v : Way) : Int := if v.2.2 = true then 0 else 5
theorem order_calls (A0 : Option Addr) (n0 c0 : Nat) (l0 : List S39) (A1 : Option Addr) (n1 c1 : Nat) (l1 : List S37) (A2 : Option Addr) (n2 c2 : Nat) (l2 : List (List Int)) (a f : Int) (W : World)
  (e0 : l0.length = n0) (e1 : l1.length = n1) (e2 : l2.length = n2) (h0 : Kd.C k39 W A0 n0 l0) (hc0 : n0 ≤ c0) (h1 : Kd.C k37 W A1 n1 l1) (hc1 : n1 ≤ c1) (h2 : Kd.C (Kd.slice 3 (Kd.int .i64)) W A2 n2 l2) (hc2 : n2 ≤ c2)
  (hv : validB l0 l1 l2 = true) (a0 : 0 ≤ a) (a1 : a ≤ l0.length) (hf : inFault l0 f = true) :
  Calls Try.prog 24 #[.agg #[.slice A0 n0 c0, .slice A1 n1 c1, .slice A2 n2 c2], .int .i64 a, .int .i64 f] W (OrdL (ordS (orderV l0 l1 l2 a f)) (ordE (orderV l0 l1 l2 a f)) W) := by
 subst e0
 subst e1
 subst e2
 have h := order_eq hv a f a0 a1 hf 1 (Nat.le_refl _)
 unfold ordS ordE
 cases hb : (orderV l0 l1 l2 a f).2.2 with
 | true =>
  rw [hb, if_pos rfl] at h
  rw [if_pos rfl, if_pos rfl]
  exact (pipe_Order.calls 1 _ _ l0 _ _ l1 _ _ l2 a f _ _ _ W h0 hc0 h1 hc1 h2 hc2 h).mono fun e w' ⟨v, h1, _, h2⟩ => ⟨v, h1, h2⟩
 | false =>
  rw [hb, if_neg (by decide)] at h
  rw [if_neg (by decide), if_neg (by decide)]
  exact (pipe_Order.calls 1 _ _ l0 _ _ l1 _ _ l2 a f _ _ _ W h0 hc0 h1 hc1 h2 hc2 h).mono fun e w' ⟨v, h1, _, h2⟩ => ⟨v, h1, h2⟩
theorem freezes_calls (A0 : Option Addr) (n0 c0 : Nat) (l0 : List S39) (A1 : Option Addr) (n1 c1 : Nat) (l1 : List S37) (A2 : Option Addr) (n2 c2 : Nat) (l2 : List (List Int)) (i : Int) (W : World)
  (e0 : l0.length = n0) (e1 : l1.length = n1) (e2 : l2.length = n2) (h0 : Kd.C k39 W A0 n0 l0) (hc0 : n0 ≤ c0) (h1 : Kd.C k37 W A1 n1 l1) (hc1 : n1 ≤ c1) (h2 : Kd.C (Kd.slice 3 (Kd.int .i64)) W A2 n2 l2) (hc2 : n2 ≤ c2)
  (hv : validB l0 l1 l2 = true) (i0 : 0 ≤ i) (i1 : i < l0.length) :
  Calls Try.prog 43 #[.agg #[.slice A0 n0 c0, .slice A1 n1 c1, .slice A2 n2 c2], .int .i64 i] W fun e w' => e = .returned (.tuple #[.int .i64 (canV l0 l1 i), .int .i64 (mustV l0 l1 i), .int .i64 0]) ∧ Below W.heap.size W w' := by
 subst e0
 subst e1
 subst e2
 have h := pfreezes_eq l0 l1 l2 i
 rw [hv, (isloop_iff (net_ok hv) i).2 ⟨i0, i1⟩, if_pos (by decide)] at h
 exact pipe_Freezes.calls _ _ l0 _ _ l1 _ _ l2 i _ _ _ W h0 hc0 h1 hc1 h2 hc2 h
theorem ord_rel {v0 v1 v2 : Way} (h1 : v1.2.2 = true → v0.2.2 = true ∧ v1.2.1 ≤ v0.2.1) (h2 : v0.2.2 = true → v2.2.2 = true ∧ v0.2.1 ≤ v2.2.1) :
  (ordE v1 = 0 ∧ ordE v0 = 0 ∧ ordE v2 = 0 ∧ ordS v1 ≤ ordS v0 ∧ ordS v0 ≤ ordS v2) ∨ (ordE v1 = 5 ∧ ordE v0 = 0 ∧ ordE v2 = 0 ∧ ordS v0 ≤ ordS v2) ∨ (ordE v1 = 5 ∧ ordE v0 = 5 ∧ ordE v2 = 0) ∨ (ordE v1 = 5 ∧ ordE v0 = 5 ∧ ordE v2 = 5) := by
 unfold ordE ordS
 cases b1 : v1.2.2 <;> cases b0 : v0.2.2 <;> cases b2 : v2.2.2 <;> simp_all
end Go.Proofs.Ytipphcjgdebecaa.PA
