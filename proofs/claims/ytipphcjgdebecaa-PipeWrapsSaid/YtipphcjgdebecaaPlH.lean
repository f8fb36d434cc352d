/- What functions of the program answer. No condition. -/
import Derived.Test.YtipphcjgdebecaaSC
import Derived.Test.YtipphcjgdebecaaSF
import Derived.Test.YtipphcjgdebecaaSE
import Derived.Test.YtipphcjgdebecaaPlB
import Derived.Test.YtipphcjgdebecaaPlC
import Derived.RangeFuncNested
import Derived.RangeFuncBound
import Derived.RangeFuncCalls
import Derived.RangeFuncLeaves
import Derived.RangeFuncBox
import Derived.Shelf.Abstract
import Derived.Shelf.RegionOpen
import Derived.OwnWalkIn
import Derived.TacticsInMore
import Derived.LoopNIn
import Derived.LoopIn
import Derived.Recover
import Derived.Defers
import Derived.WalkLawsBesides
import Derived.WalkSmall
import Derived.Test.YtipphcjgdebecaaPlG
import Derived.Test.YtipphcjgdebecaaSH
import Derived.Test.YtipphcjgdebecaaSJ
import Derived.Test.YtipphcjgdebecaaSL
import Derived.Test.YtipphcjgdebecaaPlA
set_option linter.all false
set_option maxRecDepth 100000
set_option maxHeartbeats 8000000
namespace Go.Proofs.Ytipphcjgdebecaa.PA
open Go.RowKit Go.Proofs.YtipphcjgdebecaaW.PrintWords Go.Proofs.YtipphcjgdebecaaW.PrintLast Go.Proofs.YtipphcjgdebecaaW.PrintMore
attribute [local go_sem] qaw qay max_two min_two qas qat qax qaz
def wrapOne (set : Int) (i : Nat) (L : S39) : S39 := if bitB set i = true then ⟨L.f0, L.f2, L.f2, L.f3, L.f4, L.f5, L.f6, L.f7⟩ else L
def wrapTo (l0 : List S39) (set : Int) (k : Nat) : List S39 := l0.mapIdx fun i L => if i < k then wrapOne set i L else L
def wrappedL (l0 : List S39) (set : Int) : List S39 := l0.mapIdx fun i L => wrapOne set i L
theorem wrapTo_length (l0 : List S39) (set : Int) (k : Nat) : (wrapTo l0 set k).length = l0.length := by simp [wrapTo]
theorem wrappedL_length (l0 : List S39) (set : Int) : (wrappedL l0 set).length = l0.length := by simp [wrappedL]
theorem wrapTo_zero (l0 : List S39) (set : Int) : wrapTo l0 set 0 = l0 := by
 refine List.ext_getElem (by simp [wrapTo]) fun i h1 h2 => ?_
 simp [wrapTo]
theorem wrapTo_all (l0 : List S39) (set : Int) : wrapTo l0 set l0.length = wrappedL l0 set := by
 refine List.ext_getElem (by simp [wrapTo, wrappedL]) fun i h1 h2 => ?_
 have h : i < l0.length := by simpa [wrapTo] using h1
 simp [wrapTo, wrappedL, h]
theorem wrapTo_at (l0 : List S39) (set : Int) (k : Nat) (hk : k < l0.length) : qal (wrapTo l0 set k) (k : Int) = l0[k] := by
 have : k < (wrapTo l0 set k).length := by rw [wrapTo_length]; exact hk
 simp [qal, this]
 simp [wrapTo]
theorem wrapTo_succ (l0 : List S39) (set : Int) (k : Nat) (hk : k < l0.length) : wrapTo l0 set (k + 1) = (wrapTo l0 set k).set k (wrapOne set k l0[k]) := by
 refine List.ext_getElem (by simp [wrapTo]) fun i h1 h2 => ?_
 rw [List.getElem_set]
 by_cases he : k = i
 ·
  subst he
  simp [wrapTo]
 ·
  rw [if_neg he]
  simp only [wrapTo, List.getElem_mapIdx]
  by_cases hi : i < k
  ·
   rw [if_pos hi, if_pos (by omega)]
  ·
   rw [if_neg hi, if_neg (by omega)]
theorem wrapTo_no (l0 : List S39) (set : Int) (k : Nat) (hk : k < l0.length) (hb : bitB set (k : Int) = false) : wrapTo l0 set (k + 1) = wrapTo l0 set k := by
 refine List.ext_getElem (by simp [wrapTo]) fun i h1 h2 => ?_
 simp only [wrapTo, List.getElem_mapIdx]
 by_cases he : i = k
 ·
  subst he
  simp [wrapOne, hb]
 ·
  by_cases hi : i < k
  ·
   rw [if_pos hi, if_pos (by omega)]
  ·
   rw [if_neg hi, if_neg (by omega)]
theorem wrapTo_yes (l0 : List S39) (set : Int) (k : Nat) (hk : k < l0.length) (hb : bitB set (k : Int) = true) :
  wrapTo l0 set (k + 1) = (wrapTo l0 set k).set (Int.toNat (k : Int)) ⟨(qal (wrapTo l0 set k) k).f0, (qal (wrapTo l0 set k) k).f2, (qal (wrapTo l0 set k) k).f2, (qal (wrapTo l0 set k) k).f3, (qal (wrapTo l0 set k) k).f4, (qal (wrapTo l0 set k) k).f5, (qal (wrapTo l0 set k) k).f6, (qal (wrapTo l0 set k) k).f7⟩ := by
 rw [wrapTo_at l0 set k hk, wrapTo_succ l0 set k hk, Int.toNat_natCast]
 simp [wrapOne, hb]
def cells39 (L : S39) : List Value := [.int .i64 L.f0.f0, .int .i64 L.f0.f1, .int .i64 L.f1.f0, .int .i64 L.f1.f1, .int .i64 L.f2.f0, .int .i64 L.f2.f1, .int .i64 L.f3, .int .i64 L.f4, .int .i64 L.f5, .int .i64 L.f6, .int .i64 L.f7.f0, .int .i64 L.f7.f1]
theorem row39_at {W : World} {base gr n c : Nat} {ok : Nat → Prop} {xs : List S39} (h : k39.R 39 W base ok (.slice (some ⟨gr, 0, none⟩) n c) xs) (k : Nat) (hk : k < n) : ∀ j u, (cells39 (qal xs k))[j]? = some u → W.cell? ⟨gr, k * 12 + j, none⟩ = some u := by
 obtain ⟨ad, c', e, _, hK, hc⟩ := Kd.C_get (Kd.R_reads' h).2.2 z39 (k : Int) (by omega) (by have := (Kd.R_reads' h).1; omega)
 cases e
 obtain rfl := k39_open hK
 intro j u hj
 have h1 := hc j u hj
 have e2 : (⟨gr, 0, none⟩ : Addr).add ((k : Int).toNat * 12 + j) = ⟨gr, k * 12 + j, none⟩ := by simp [Addr.add]; try omega
 exact e2 ▸ h1
structure WI (w : World) (gb g4 g5 : Nat) (u0 u1 u2 : Value) (vr : Value) (xs : List S39) (W : World) : Prop where
 b : W.heap[gb]? = some (.cells #[u0, u1, u2] 26 (0, 0))
 r : W.heap[g4]? = some (.cells #[.slice none 0 0, .slice none 0 0, .slice none 0 0] 26 (0, 0))
 o : W.heap[g5]? = some (.cells #[vr, u1, u2] 26 (0, 0))
 x : Kd.R k39 39 W w.heap.size (fun _ => True) vr xs
 hb : Below w.heap.size w W
theorem WI.below {w W W' : World} {gb g4 g5 : Nat} {u0 u1 u2 vr : Value} {xs : List S39} (h : WI w gb g4 g5 u0 u1 u2 vr xs W) (hb : Below W.heap.size W W') : WI w gb g4 g5 u0 u1 u2 vr xs W' := ⟨qag h.b hb, qag h.r hb, qag h.o hb, Kd.R_below h.x hb, qad h.hb hb⟩
theorem talikref04_Wrapped.calls (A0_0 : Option Addr) (c0_0 : Nat) (l0_0 : List S39) (A0_1 : Option Addr) (n1 c0_1 : Nat) (A0_2 : Option Addr) (n2 c0_2 : Nat) (set : Int) (w : World) (hr0_0 : Kd.C k39 w A0_0 l0_0.length l0_0) (hc0_0 : l0_0.length ≤ c0_0) (h5 : l0_0.length ≤ 5) (s0 : 0 ≤ set) (s1 : set < 32) :
  Calls Try.prog 42 #[.agg #[.slice A0_0 l0_0.length c0_0, .slice A0_1 n1 c0_1, .slice A0_2 n2 c0_2], .int .i64 set] w fun e w' => ∃ A c, e = .returned (.agg #[.slice A l0_0.length c, .slice A0_1 n1 c0_1, .slice A0_2 n2 c0_2]) ∧ l0_0.length ≤ c ∧ Kd.C k39 w' A l0_0.length (wrappedL l0_0 set) ∧ Below w.heap.size w w' := by
 have hu26 := Try.underlying26
 have hu39 := Try.underlying39
 have hu37 := Try.underlying37
 have HB := qab.mk (Below.refl w.heap.size w)
 have HR0 := qab.mk hr0_0
 have HC0 := qab.mk hc0_0
 clear hr0_0 hc0_0
 have hhas : ∀ (i : Nat) (W : World), i < 5 → Calls Try.prog 68 #[.int .i64 set, .int .i64 i] W fun e w' => e = .returned (.bool (bitB set i)) ∧ Below W.heap.size W w' := fun i W hi => (talikref04_Has.calls 10 set i _ W (has_eq set s0 s1 i hi 10 (by omega))).mono fun e w' ⟨h1, h2⟩ => ⟨h1, h2.below⟩
 have HHAS := qab.mk hhas
 clear hhas
 go_enter Try.func42, Try.ntmps42
 go_upto_region 2 with (first | ((with_reducible refine qan (N := 2) rfl ?_); refine qam ?hg (N := 2) ?hd (cs := #[.slice A0_0 l0_0.length c0_0, .slice A0_1 n1 c0_1, .slice A0_2 n2 c0_2]) (t := 26) ?hr ?_; (case hd => rfl); (case hg => rfl); (case hr => first | (go_simp; done) | (go_simp; rfl)); intro gb hg_gb w2 hbox hb; have BKgb := qab.mk hbox; have n_HB := qab.mk (qad HB.out hb); have GEgb : w.heap.size ≤ gb := (by rw [hg_gb]; exact HB.out.size); clear HB; have HB := n_HB; clear n_HB; obtain ⟨hfgb, hcgb_0, hcgb_1, hcgb_2⟩ := qz3 BKgb.out; clear hbox hb hg_gb) | ((with_reducible refine qan (N := 4) rfl ?_); refine qam ?hg (N := 4) ?hd (cs := #[.slice none 0 0, .slice none 0 0, .slice none 0 0]) (t := 26) ?hr ?_; (case hd => rfl); (case hg => rfl); (case hr => first | (go_simp; done) | (go_simp; rfl)); intro g4 hg_g4 w3 hbox hb; have BKg4 := qab.mk hbox; replace BKgb := qab.mk (qag BKgb.out hb); have n_HB := qab.mk (qad HB.out hb); have GEg4 : w.heap.size ≤ g4 := (by rw [hg_g4]; exact HB.out.size); clear HB; have HB := n_HB; clear n_HB; obtain ⟨hfg4, hcg4_0, hcg4_1, hcg4_2⟩ := qz3 BKg4.out; clear hbox hb hg_g4; obtain ⟨hfgb, hcgb_0, hcgb_1, hcgb_2⟩ := qz3 BKgb.out) | ((with_reducible refine qan (N := 5) rfl ?_); refine qam ?hg (N := 5) ?hd (cs := #[.slice none 0 0, .slice none 0 0, .slice none 0 0]) (t := 26) ?hr ?_; (case hd => rfl); (case hg => rfl); (case hr => first | (go_simp; done) | (go_simp; rfl)); intro g5 hg_g5 w4 hbox hb; have BKg5 := qab.mk hbox; have ne_gb_g5 : gb ≠ g5 := (by rw [hg_g5]; exact Nat.ne_of_lt (blk_lt BKgb.out)); have ne_g4_g5 : g4 ≠ g5 := (by rw [hg_g5]; exact Nat.ne_of_lt (blk_lt BKg4.out)); replace BKgb := qab.mk (qag BKgb.out hb); replace BKg4 := qab.mk (qag BKg4.out hb); have n_HB := qab.mk (qad HB.out hb); have GEg5 : w.heap.size ≤ g5 := (by rw [hg_g5]; exact HB.out.size); clear HB; have HB := n_HB; clear n_HB; obtain ⟨hfg5, hcg5_0, hcg5_1, hcg5_2⟩ := qz3 BKg5.out; clear hbox hb hg_g5; obtain ⟨hfgb, hcgb_0, hcgb_1, hcgb_2⟩ := qz3 BKgb.out))
 have he_ : setAll w4 g5 [.slice A0_0 l0_0.length c0_0, .slice A0_1 n1 c0_1, .slice A0_2 n2 c0_2] 0 = (((w4.setCell ⟨g5, 0, none⟩ (.slice A0_0 l0_0.length c0_0)).setCell ⟨g5, 1, none⟩ (.slice A0_1 n1 c0_1)).setCell ⟨g5, 2, none⟩ (.slice A0_2 n2 c0_2)) := rfl; have hbl := setAll_below GEg5 [.slice A0_0 l0_0.length c0_0, .slice A0_1 n1 c0_1, .slice A0_2 n2 c0_2] 0 _ HB.out; have hbx : (setAll w4 g5 [.slice A0_0 l0_0.length c0_0, .slice A0_1 n1 c0_1, .slice A0_2 n2 c0_2] 0).heap[g5]? = some (.cells #[.slice A0_0 l0_0.length c0_0, .slice A0_1 n1 c0_1, .slice A0_2 n2 c0_2] 26 (0, 0)) := setAll_new [.slice A0_0 l0_0.length c0_0, .slice A0_1 n1 c0_1, .slice A0_2 n2 c0_2] [.slice none 0 0, .slice none 0 0, .slice none 0 0] BKg5.out rfl; have hx_BKgb := setAll_far ne_gb_g5 [.slice A0_0 l0_0.length c0_0, .slice A0_1 n1 c0_1, .slice A0_2 n2 c0_2] 0 _ BKgb.out; have hx_BKg4 := setAll_far ne_g4_g5 [.slice A0_0 l0_0.length c0_0, .slice A0_1 n1 c0_1, .slice A0_2 n2 c0_2] 0 _ BKg4.out; rw [he_] at hbl hbx hx_BKgb hx_BKg4; clear he_; generalize (((w4.setCell ⟨g5, 0, none⟩ (.slice A0_0 l0_0.length c0_0)).setCell ⟨g5, 1, none⟩ (.slice A0_1 n1 c0_1)).setCell ⟨g5, 2, none⟩ (.slice A0_2 n2 c0_2)) = w5 at hbl hbx hx_BKgb hx_BKg4 ⊢; clear HB BKg5; have HB := qab.mk hbl; have BKg5 := qab.mk hbx; clear hbl hbx; clear BKgb; have BKgb := qab.mk hx_BKgb; clear hx_BKgb; clear BKg4; have BKg4 := qab.mk hx_BKg4; clear hx_BKg4
 clear hfg5 hcg5_0 hcg5_1 hcg5_2 hfgb hcgb_0 hcgb_1 hcgb_2 hfg4 hcg4_0 hcg4_1 hcg4_2
 obtain ⟨hfgb, hcgb_0, hcgb_1, hcgb_2⟩ := qz3 BKgb.out
 obtain ⟨hfg5, hcg5_0, hcg5_1, hcg5_2⟩ := qz3 BKg5.out
 go_upto_region 3 with (first | ((with_reducible refine gate_builtin (b := .append) (xs := #[.const (.slice none 0 0), .tmp 9]) rfl ?_); at_builtin; refine Kd.R_append_rows k39 (w0 := w) w.heap.size rfl (.const (.slice none 0 0)) (.tmp 9) 22 39 (.agg #[.int .i64 0, .int .i64 0, .int .i64 0, .int .i64 0, .int .i64 0, .int .i64 0, .int .i64 0, .int .i64 0, .int .i64 0, .int .i64 0, .int .i64 0, .int .i64 0]) 96 rfl Try.underlying22 info39 rfl (by decide) (by omega) (.slice none 0 0) ([] : List S39) l0_0 _ _ _ (fun _ => True) (fun _ => False) rfl rfl ?aO ?aR (fun _ _ h => h) (fun _ h => h.elim) ?aF ?aB ?aS ?aL ?_; (case aR => exact Kd.qaj HR0.out HB.out); (case aB => exact HB.out); (case aF => exact fun _ _ => trivial); (case aO => exact Kd.R_nil _ _ _ _ _); (case aS => exact HB.out.size); (case aL => simp; omega); intro v10 w10 ho hB hg hat; have n_b := qab.mk (blk_grown BKgb.out hg (by simp [Value.ownBlock])); have n_4 := qab.mk (blk_grown BKg4.out hg (by simp [Value.ownBlock])); have n_5 := qab.mk (blk_grown BKg5.out hg (by simp [Value.ownBlock])); clear BKgb BKg4 BKg5 HB; have BKgb := n_b; have BKg4 := n_4; have BKg5 := n_5; have HB := qab.mk hB; rw [List.nil_append] at ho; obtain ⟨vA, vc, rfl⟩ := Kd.R_slice ho; have HO := qab.mk ho; clear n_b n_4 n_5 ho hB hg hat; obtain ⟨hfg5, hcg5_0, hcg5_1, hcg5_2⟩ := qz3 BKg5.out))
 have hbk5 := qba BKg5.out 0 (.slice vA l0_0.length vc)
 have hbkb := blk_far (p := ⟨g5, 0, none⟩) BKgb.out ne_gb_g5 (.slice vA l0_0.length vc)
 have hbk4 := blk_far (p := ⟨g5, 0, none⟩) BKg4.out ne_g4_g5 (.slice vA l0_0.length vc)
 have hbb := qai (j := 0) (v := .slice vA l0_0.length vc) HB.out GEg5
 have hx := Kd.R_set HO.out BKg5.out (by decide) 0 (.slice vA l0_0.length vc)
 have HI : qab (WI w gb g4 g5 (.slice A0_0 l0_0.length c0_0) (.slice A0_1 n1 c0_1) (.slice A0_2 n2 c0_2) (.slice vA l0_0.length vc) (wrapTo l0_0 set 0) (w10.setCell ⟨g5, 0, none⟩ (.slice vA l0_0.length vc))) := ⟨⟨hbkb, hbk4, hbk5, by rw [wrapTo_zero]; exact hx, hbb⟩⟩
 clear hbk5 hbkb hbk4 hbb hx hfg5 hcg5_0 hcg5_1 hcg5_2 hfgb hcgb_0 hcgb_1 hcgb_2 BKgb BKg4 BKg5 HB HO
 generalize w10.setCell ⟨g5, 0, none⟩ (.slice vA l0_0.length vc) = wL at HI ⊢
 go_wp2
 go_loopw [6] (fun s6 wr => ∃ k : Nat, k ≤ l0_0.length ∧ s6 = .int .i64 k ∧ qab (WI w gb g4 g5 (.slice A0_0 l0_0.length c0_0) (.slice A0_1 n1 c0_1) (.slice A0_2 n2 c0_2) (.slice vA l0_0.length vc) (wrapTo l0_0 set k) wr)) (fun s6 _ => l0_0.length - (intOf s6).toNat)
 case atStart => exact ⟨0, by omega, rfl, HI⟩
 case round =>
  clear HI wL
  obtain ⟨k, hk1, rfl, HI⟩ := hrel
  have g5_0 : wr.cell? ⟨g5, 0, none⟩ = some (.slice vA l0_0.length vc) := (qaa HI.out.o 0).trans rfl
  by_cases hlt : k < l0_0.length
  ·
   have hk5 : k < 5 := by omega
   cases hbit : bitB set (k : Int) with
   | false =>
    have HN := qab.mk (wrapTo_no l0_0 set k hlt hbit)
    have HC : qab (∀ W, Calls Try.prog 68 #[.int .i64 set, .int .i64 k] W fun e w' => e = .returned (.bool false) ∧ Below W.heap.size W w') := ⟨fun W => by have h := HHAS.out k W hk5; rw [hbit] at h; exact h⟩
    clear hbit
    go_wp2_with (go_at_call 68; with_reducible refine (HC.out _).mono ?_; rintro e w4 ⟨rfl, hb⟩; replace HI := qab.mk (HI.out.below hb); clear hb g5_0; have g5_0 : w4.cell? ⟨g5, 0, none⟩ = some (.slice vA l0_0.length vc) := (qaa HI.out.o 0).trans rfl)
    go_roundw
    case rel => exact ⟨k + 1, by omega, by go_num, by rw [HN.out]; exact HI⟩
    case measure => simp [intOf]; omega
   | true =>
    have HY := qab.mk (wrapTo_yes l0_0 set k hlt hbit)
    have HC : qab (∀ W, Calls Try.prog 68 #[.int .i64 set, .int .i64 k] W fun e w' => e = .returned (.bool true) ∧ Below W.heap.size W w') := ⟨fun W => by have h := HHAS.out k W hk5; rw [hbit] at h; exact h⟩
    clear hbit
    go_upto_region 7 with (go_at_call 68; with_reducible refine (HC.out _).mono ?_; rintro e w4 ⟨rfl, hb⟩; replace HI := qab.mk (HI.out.below hb); clear hb g5_0)
    obtain ⟨gr, c', e, hgr, hgl, cs', hbr⟩ := Kd.R_form HI.out.x (by rw [wrapTo_length]; omega)
    rw [wrapTo_length] at e
    injection e with e1 _ e3
    subst e1
    subst e3
    obtain ⟨L, hL⟩ : ∃ L, L = qal (wrapTo l0_0 set k) (k : Int) := ⟨_, rfl⟩
    have hrow := row39_at HI.out.x k (by omega)
    rw [← hL] at hrow
    rw [← hL] at HY
    have hS : (w4.cell? ⟨g5, 0, none⟩ = some (.slice (some ⟨gr, 0, none⟩) l0_0.length vc) ∧ w4.cell? ⟨gr, k * 12 + 4, none⟩ = some (.int .i64 L.f2.f0) ∧ w4.cell? ⟨gr, k * 12 + 5, none⟩ = some (.int .i64 L.f2.f1)) := ⟨(qaa HI.out.o 0).trans rfl, hrow 4 _ rfl, hrow 5 _ rfl⟩
    have hne := blk_ne HI.out.b hbr (by decide)
    have hne4 := blk_ne HI.out.r hbr (by decide)
    have hne5 := blk_ne HI.out.o hbr (by decide)
    have HS := qab.mk hS
    have HROW := qab.mk hrow
    have HBR := qab.mk hbr
    clear hS hrow hbr hL
    refine start_ (n := 12) (S := (fun w' => (w'.cell? ⟨g5, 0, none⟩ = some (.slice (some ⟨gr, 0, none⟩) l0_0.length vc) ∧ w'.cell? ⟨gr, k * 12 + 4, none⟩ = some (.int .i64 L.f2.f0) ∧ w'.cell? ⟨gr, k * 12 + 5, none⟩ = some (.int .i64 L.f2.f1)))) (ds := [11]) (msk 12 0) (by kernel_rfl) rfl rfl (HS.out) (fun hHeld => ?_)
    have n_HI := qab.mk (HI.out.below (qbb (Below.refl w4.heap.size w4))); have hbd : w4.drew.heap[gr]? = some (.cells cs' 39 (0, 0)) := HBR.out; have n_R : ∀ j u, (cells39 L)[j]? = some u → w4.drew.cell? ⟨gr, k * 12 + j, none⟩ = some u := HROW.out; have n_ROW := qab.mk n_R; clear HI HROW HBR n_R; have HI := n_HI; have HROW := n_ROW; clear n_HI n_ROW; generalize w4.drew = wd at HI HROW hbd hHeld ⊢; have fr := qac hbd; have HBR := qab.mk hbd; clear hbd; have d2 : wd.cell? ⟨gr, k * 12 + 2, none⟩ = some (.int .i64 L.f1.f0) := HROW.out 2 _ rfl; have d3 : wd.cell? ⟨gr, k * 12 + 3, none⟩ = some (.int .i64 L.f1.f1) := HROW.out 3 _ rfl
    refine pure_ (i := 0) (N := some 22) (v := ?_) (a' := ?_) (msk 12 1) rfl rfl (by kernel_rfl) (fun _ _ _ h => h) (Or.inl ⟨by rfl, ?_⟩) ?_ ?_; rotate_left; (focus (intro w'; go_simp; with_reducible rfl)); rotate_left; (focus (simp only [Act.put, qzA, qzB, qzC, i64_w, i32_w]; rfl))
    refine take_ (i := 1) (N := some 23) (v := ?_) (a' := ?_) (msk 12 2) rfl rfl (by kernel_rfl) (fun _ _ _ h => h) (Or.inl ⟨by rfl, ?_⟩) hHeld ?_ ?_; rotate_left; (focus (rintro w' ⟨s0, s1, s2⟩; go_simp; with_reducible rfl)); rotate_left; (focus (simp only [Act.put, qzA, qzB, qzC, i64_w, i32_w]; rfl))
    refine pure_ (i := 2) (N := some 24) (v := ?_) (a' := ?_) (msk 12 3) rfl rfl (by kernel_rfl) (fun _ _ _ h => h) (Or.inl ⟨by rfl, ?_⟩) ?_ ?_; rotate_left; (focus (intro w'; go_simp; with_reducible rfl)); rotate_left; (focus (simp only [Act.put, qzA, qzB, qzC, i64_w, i32_w]; rfl))
    refine pure_ (i := 3) (N := some 25) (v := ?_) (a' := ?_) (msk 12 4) rfl rfl (by kernel_rfl) (fun _ _ _ h => h) (Or.inl ⟨by rfl, ?_⟩) ?_ ?_; rotate_left; (focus (intro w'; go_simp; with_reducible rfl)); rotate_left; (focus (simp only [Act.put, qzA, qzB, qzC, i64_w, i32_w]; rfl))
    refine take_ (i := 4) (N := some 26) (v := ?_) (a' := ?_) (msk 12 5) rfl rfl (by kernel_rfl) (fun _ _ _ h => h) (Or.inl ⟨by rfl, ?_⟩) hHeld ?_ ?_; rotate_left; (focus (rintro w' ⟨s0, s1, s2⟩; go_simp; with_reducible rfl)); rotate_left; (focus (simp only [Act.put, qzA, qzB, qzC, i64_w, i32_w]; rfl))
    refine pure_ (i := 5) (N := some 27) (v := ?_) (a' := ?_) (msk 12 6) rfl rfl (by kernel_rfl) (fun _ _ _ h => h) (Or.inl ⟨by rfl, ?_⟩) ?_ ?_; rotate_left; (focus (intro w'; go_simp; with_reducible rfl)); rotate_left; (focus (simp only [Act.put, qzA, qzB, qzC, i64_w, i32_w]; rfl))
    refine pure_ (i := 6) (N := some 28) (v := ?_) (a' := ?_) (msk 12 7) rfl rfl (by kernel_rfl) (fun _ _ _ h => h) (Or.inl ⟨by rfl, ?_⟩) ?_ ?_; rotate_left; (focus (intro w'; go_simp; with_reducible rfl)); rotate_left; (focus (simp only [Act.put, qzA, qzB, qzC, i64_w, i32_w]; rfl))
    refine pure_ (i := 7) (N := some 29) (v := ?_) (a' := ?_) (msk 12 8) rfl rfl (by kernel_rfl) (fun _ _ _ h => h) (Or.inl ⟨by rfl, ?_⟩) ?_ ?_; rotate_left; (focus (intro w'; go_simp; with_reducible rfl)); rotate_left; (focus (simp only [Act.put, qzA, qzB, qzC, i64_w, i32_w]; rfl))
    refine take_ (i := 8) (N := some 30) (v := ?_) (a' := ?_) (msk 12 9) rfl rfl (by kernel_rfl) (fun _ _ _ h => h) (Or.inl ⟨by rfl, ?_⟩) hHeld ?_ ?_; rotate_left; (focus (rintro w' ⟨s0, s1, s2⟩; go_simp; with_reducible rfl)); rotate_left; (focus (simp only [Act.put, qzA, qzB, qzC, i64_w, i32_w]; rfl))
    refine pure_ (i := 9) (N := some 31) (v := ?_) (a' := ?_) (msk 12 10) rfl rfl (by kernel_rfl) (fun _ _ _ h => h) (Or.inl ⟨by rfl, ?_⟩) ?_ ?_; rotate_left; (focus (intro w'; go_simp; with_reducible rfl)); rotate_left; (focus (simp only [Act.put, qzA, qzB, qzC, i64_w, i32_w]; rfl))
    refine pure_ (i := 10) (N := some 32) (v := ?_) (a' := ?_) (msk 12 11) rfl rfl (by kernel_rfl) (fun _ _ _ h => h) (Or.inl ⟨by rfl, ?_⟩) ?_ ?_; rotate_left; (focus (intro w'; go_simp; with_reducible rfl)); rotate_left; (focus (simp only [Act.put, qzA, qzB, qzC, i64_w, i32_w]; rfl))
    refine last_ (i := 11) (N := none) (msk 12 12) rfl rfl (by kernel_rfl) (by decide) (fun K hK => ?_); refine skip_ (w1 := ?_) (by rfl) rfl ?_ ?_; rotate_left; (focus (go_simp; rfl)); refine hK.out _ _ ?_; clear hK K hHeld
    have hsg := Kd.R_seg HI.out.x (k : Int) (by omega) (by omega) (c := cells39 L) (seg := [.int .i64 L.f2.f0, .int .i64 L.f2.f1]) (j := 2) rfl HROW.out (show 2 + 2 ≤ 12 by decide) (x' := (⟨L.f0, L.f2, L.f2, L.f3, L.f4, L.f5, L.f6, L.f7⟩ : S39)) (okp := fun _ => False) (k39_mkM _ _ _ (⟨L.f0, L.f2, L.f2, L.f3, L.f4, L.f5, L.f6, L.f7⟩ : S39)) (fun _ h => h.elim)
    have h1 : k39.R 39 ((wd.setCell ⟨gr, k * 12 + 2, none⟩ (.int .i64 L.f2.f0)).setCell ⟨gr, k * 12 + 2 + 1, none⟩ (.int .i64 L.f2.f1)) w.heap.size (fun _ => True) (.slice (some ⟨gr, 0, none⟩) l0_0.length vc) ((wrapTo l0_0 set k).set (Int.toNat (k : Int)) (⟨L.f0, L.f2, L.f2, L.f3, L.f4, L.f5, L.f6, L.f7⟩ : S39)) := hsg.1
    have h2 := blk_far (p := ⟨gr, k * 12 + 2 + 1, none⟩) (blk_far (p := ⟨gr, k * 12 + 2, none⟩) HI.out.b hne (.int .i64 L.f2.f0)) hne (.int .i64 L.f2.f1)
    have h3 := blk_far (p := ⟨gr, k * 12 + 2 + 1, none⟩) (blk_far (p := ⟨gr, k * 12 + 2, none⟩) HI.out.r hne4 (.int .i64 L.f2.f0)) hne4 (.int .i64 L.f2.f1)
    have h4 := blk_far (p := ⟨gr, k * 12 + 2 + 1, none⟩) (blk_far (p := ⟨gr, k * 12 + 2, none⟩) HI.out.o hne5 (.int .i64 L.f2.f0)) hne5 (.int .i64 L.f2.f1)
    have h5 := qai (j := k * 12 + 2 + 1) (v := .int .i64 L.f2.f1) (qai (j := k * 12 + 2) (v := .int .i64 L.f2.f0) HI.out.hb hgr) hgr
    have HI2 := qab.mk (WI.mk h2 h3 h4 h1 h5); clear HI hsg h1 h2 h3 h4 h5 HROW HBR d2 d3 fr HS hne hne4 hne5
    generalize ((wd.setCell ⟨gr, k * 12 + 2, none⟩ (.int .i64 L.f2.f0)).setCell ⟨gr, k * 12 + 2 + 1, none⟩ (.int .i64 L.f2.f1)) = we at HI2 ⊢; have HI := HI2; clear HI2
    refine done_ (by kernel_rfl) ?_
    go_wp2
    go_roundw
    case rel => exact ⟨k + 1, by omega, by go_num, by rw [HY.out]; exact HI⟩
    case measure => simp [intOf]; omega
  ·
   obtain rfl : k = l0_0.length := by omega
   have g5_1 : wr.cell? ⟨g5, 1, none⟩ = some (.slice A0_1 n1 c0_1) := (qaa HI.out.o 1).trans rfl
   have g5_2 : wr.cell? ⟨g5, 2, none⟩ = some (.slice A0_2 n2 c0_2) := (qaa HI.out.o 2).trans rfl
   have g4_0 : wr.cell? ⟨g4, 0, none⟩ = some (.slice none 0 0) := (qaa HI.out.r 0).trans rfl; have g4_1 : wr.cell? ⟨g4, 1, none⟩ = some (.slice none 0 0) := (qaa HI.out.r 1).trans rfl; have g4_2 : wr.cell? ⟨g4, 2, none⟩ = some (.slice none 0 0) := (qaa HI.out.r 2).trans rfl
   have f4 := qac HI.out.r
   go_wp2
   refine bodyPost_ret (results_cell_row rfl _ _ g4 26 #[.slice vA l0_0.length vc, .slice A0_1 n1 c0_1, .slice A0_2 n2 c0_2] (0, 0) _ rfl (qba (qba (qba HI.out.r 0 _) 1 _) 2 _) Try.underlying26 rfl (by kernel_rfl)) rfl ?_
   have hC := Kd.R_reads' (Kd.R_set (Kd.R_set (Kd.R_set HI.out.x HI.out.r (by decide) 0 (.slice vA l0_0.length vc)) (qba HI.out.r 0 _) (by decide) 1 (.slice A0_1 n1 c0_1)) (qba (qba HI.out.r 0 _) 1 _) (by decide) 2 (.slice A0_2 n2 c0_2))
   rw [wrapTo_all, wrappedL_length] at hC
   exact ⟨vA, vc, rfl, by have := hC.2.1; omega, hC.2.2, qai (qai (qai HI.out.hb GEg4) GEg4) GEg4⟩
end Go.Proofs.Ytipphcjgdebecaa.PA
namespace Go.Proofs.Ytipphcjgdebecaa.PA
open Go.RowKit Go.Shelf Go.Proofs.YtipphcjgdebecaaW.PrintWords Go.Proofs.YtipphcjgdebecaaW.PrintLast Go.Proofs.YtipphcjgdebecaaW.PrintMore
attribute [local go_sem] qaw qay max_two min_two qas qat qax qaz
theorem rdT39_wrapped (l0 : List S39) (set : Int) (n : Nat) (hn : n < l0.length) : qal (wrappedL l0 set) (n : Int) = wrapOne set n (qal l0 (n : Int)) := by
 simp [qal, wrappedL, hn]
theorem f7_wrapped (l0 : List S39) (set i : Int) : (qal (wrappedL l0 set) i).f7 = (qal l0 i).f7 := by
 by_cases h : i.toNat < l0.length
 ·
  simp only [qal, wrappedL, List.getElem?_mapIdx, List.getElem?_eq_getElem h, Option.map_some, Option.getD_some, List.getD_eq_getElem?_getD]
  unfold wrapOne
  split <;> rfl
 ·
  simp [qal, wrappedL, h]
theorem wrapOne_loop {L : S39} (set : Int) (i : Nat) (h : loopB L = true) : loopB (wrapOne set i L) = true := by
 unfold wrapOne
 split
 ·
  have hL := loop_ok h
  have a1 := hL.w0
  have a2 := hL.w1
  have a3 := hL.w2
  have a4 := hL.p0
  have a5 := hL.p1
  have a6 := hL.p2
  have a7 := hL.c0
  have a8 := hL.c1
  have a9 := hL.m0
  have b1 := hL.m1
  have b2 := hL.g0
  have b3 := hL.g1
  have b4 := hL.e0
  have b5 := hL.e1
  have b6 := hL.x0
  have b7 := hL.x1
  have b8 := hL.x2
  unfold loopB spanB inB
  simp only [Bool.and_eq_true, decide_eq_true_eq]
  exact ⟨⟨a1, a2, a3⟩, ⟨a4, a5, a6⟩, ⟨a4, a5, a6⟩, Int.le_refl _, Int.le_refl _, ⟨a7, a8⟩, ⟨a9, b1⟩, ⟨b2, b3⟩, ⟨b4, b5⟩, b6, b7, b8⟩
 ·
  exact h
theorem valid_wrapped {l0 : List S39} {l1 : List S37} {l2 : List (List Int)} (set : Int) (h : validB l0 l1 l2 = true) : validB (wrappedL l0 set) l1 l2 = true := by
 unfold validB at h ⊢
 rw [wrappedL_length]
 simp only [Bool.and_eq_true] at h ⊢
 obtain ⟨h1, h2, h3, h4, h5, h6⟩ := h
 refine ⟨h1, h2, h3, h4, ?_, h6⟩
 rw [List.all_eq_true] at h5 ⊢
 intro L hL
 unfold wrappedL at hL
 obtain ⟨i, hi, rfl⟩ := List.mem_iff_getElem.1 hL
 rw [List.getElem_mapIdx]
 exact wrapOne_loop set i (h5 _ (List.getElem_mem _))
theorem inFault_wrapped (l0 : List S39) (set f : Int) : inFault (wrappedL l0 set) f = inFault l0 f := by
 unfold inFault
 rw [wrappedL_length]
section
variable (l0 : List S39) (l1 : List S37) (l2 : List (List Int)) (D : List Int) (set : Int)
theorem rep_wrapped : repV (wrappedL l0 set) l2 D = repV l0 l2 D := by
 funext s i
 unfold repV nextV hourV
 rw [f7_wrapped]
theorem of_wrapped : ofV (wrappedL l0 set) l2 D = ofV l0 l2 D := by
 funext f s i
 unfold ofV
 rw [rep_wrapped]
theorem good_wrapped : goodV (wrappedL l0 set) l2 D = goodV l0 l2 D := by
 funext f slack s i
 unfold goodV
 rw [rep_wrapped]
theorem same_wrapped (f : Sp → Way) (slack : Int) : ∀ k, sameV (wrappedL l0 set) l2 D f slack k = sameV l0 l2 D f slack k
 | 0 => rfl
 | k + 1 => by
  funext s out
  simp only [sameV, good_wrapped, rep_wrapped, same_wrapped f slack k]
theorem step_wrapped (f : Sp → Way) : stepV (wrappedL l0 set) l1 l2 D f = stepV l0 l1 l2 D f := by
 funext s
 unfold stepV
 rw [of_wrapped, same_wrapped, rep_wrapped]
theorem search_wrapped : ∀ k, searchV (wrappedL l0 set) l1 l2 D k = searchV l0 l1 l2 D k
 | 0 => rfl
 | k + 1 => by
  funext s
  simp only [searchV]
  rw [search_wrapped k, step_wrapped]
theorem best_wrapped (s : Sp) : bestV (wrappedL l0 set) l1 l2 D s = bestV l0 l1 l2 D s := by
 unfold bestV
 rw [search_wrapped]
theorem warmth_wrapped (n : Nat) (hn : n < l0.length) : warmthV l0 l1 set (n : Int) = warmthV (wrappedL l0 set) l1 0 (n : Int) := by
 have e : ∀ b, leakOf (wrapOne set n (qal l0 (n : Int))) (bitB 0 b) = leakOf (qal l0 (n : Int)) (bitB set (n : Int)) := fun b => by
  rw [bitB_zero]
  unfold wrapOne leakOf
  cases bitB set (n : Int) <;> rfl
 have e0 : (wrapOne set n (qal l0 (n : Int))).f0 = (qal l0 (n : Int)).f0 := by
  unfold wrapOne
  split <;> rfl
 unfold warmthV leastV greatestV
 rw [rdT39_wrapped l0 set n hn]
 simp only [e, e0]
theorem due_wrapped (hn : l1.length ≤ 1000) (hs : 0 ≤ set) (i : Nat) (hi : i < l0.length) : (pipe_net_due.f l0 l1 l2 set (i : Int)).getD 0 = dueI (wrappedL l0 set) l1 (i : Int) := by
 rw [← due_eq (wrappedL l0 set) l1 l2 (i : Int) (by omega) (by rw [wrappedL_length]; omega) hn]
 unfold pipe_net_due.f pipe_net_freezes.f
 rw [if_pos ⟨by omega, by omega, hs, hn⟩, if_pos ⟨by omega, by rw [wrappedL_length]; omega, by decide, hn⟩, warmth_wrapped l0 l1 set i hi]
theorem dues_wrapped (hn : l1.length ≤ 1000) (hs : 0 ≤ set) : duesV l0 l1 l2 set l0.length = duesI (wrappedL l0 set) l1 := by
 unfold duesV duesI
 rw [wrappedL_length]
 refine List.map_congr_left fun i hi => ?_
 exact due_wrapped l0 l1 l2 set hn hs i (List.mem_range.1 hi)
end
theorem order_wrapped {l0 : List S39} {l1 : List S37} {l2 : List (List Int)} (hv : validB l0 l1 l2 = true) (set a f : Int) (hs : 0 ≤ set) (a0 : 0 ≤ a) (a1 : a ≤ l0.length) (f0 : 0 ≤ f) (f1 : f < ((2 ^ l0.length : Nat) : Int)) :
  pipe_net_order.f l0 l1 l2 set a f = some (orderV (wrappedL l0 set) l1 l2 a f) := by
 have hN := net_ok hv
 have hh := hN.h1
 have e : ((2 ^ l0.length : Nat) : Int) = (2 : Int) ^ l0.length := by simp
 unfold pipe_net_order.f orderV
 rw [if_pos ⟨hv, hs, a0, a1, f0, by rw [← e]; exact f1⟩, dues_wrapped l0 l1 l2 set (by omega) hs, best_wrapped]
theorem weak_wrapped {l0 : List S39} {l1 : List S37} {l2 : List (List Int)} {a : Int} {fs : List Int} (h : FaultsOk l0 l1 l2 a fs) (set : Int) (hs : 0 ≤ set) : weakV l0 l1 l2 set a fs = weakP (orderV (wrappedL l0 set) l1 l2 a) 0 l1.length fs := by
 have hl := h.len
 unfold weakV
 rw [weak_eq (O := orderV (wrappedL l0 set) l1 l2 a) fs 14 (by omega) (by omega) (fun f hf => order_wrapped h.v set a f hs h.a0 h.a1 (fault_rng (h.all f hf)).1 (fault_rng (h.all f hf)).2)]
 rfl
theorem faultsOk_wrapped {l0 : List S39} {l1 : List S37} {l2 : List (List Int)} {a : Int} {fs : List Int} (h : FaultsOk l0 l1 l2 a fs) (set : Int) : FaultsOk (wrappedL l0 set) l1 l2 a fs :=
 ⟨h.len, valid_wrapped set h.v, h.a0, by rw [wrappedL_length]; exact h.a1, fun f hf => by rw [inFault_wrapped]; exact h.all f hf⟩
theorem cost_bd (l0 : List S39) (hl : ∀ L ∈ l0, LoopOk L) : ∀ (s : List Int) (a : Int), (∀ i ∈ s, 0 ≤ i ∧ i < l0.length) → 0 ≤ a → a + 1000000 * s.length ≤ 1000000000 → a ≤ s.foldl (costS l0) a ∧ s.foldl (costS l0) a ≤ a + 1000000 * s.length
 | [], a, _, h0, _ => by simp
 | i :: t, a, h, h0, h1 => by
  have hL := hl _ (rdT39_mem (h i (by simp)).1 (h i (by simp)).2)
  have c0 := hL.c0
  have c1 := hL.c1
  simp only [List.length_cons] at h1
  have e : costS l0 a i = a + (qal l0 i).f3 := by
   unfold costS
   exact wrap_id (by omega) (by omega)
  have ih := cost_bd l0 hl t (costS l0 a i) (fun j hj => h j (by simp [hj])) (by omega) (by omega)
  simp only [List.foldl_cons, List.length_cons]
  omega
theorem rcost_go {l0 : List S39} {l1 : List S37} {l2 : List (List Int)} (hn : l0.length ≤ 5) (x : Int) (x0 : 0 ≤ x) (x1 : x < 32) : ∀ (m i k : Nat), i + m = l0.length → m + 12 ≤ k → talikref04_Cost.l0 k x (costV l0 (qar x i)) (i : Int) l0 l1 l2 = some (costV l0 (qar x l0.length)) := by
 intro m
 induction m with
 | zero =>
  intro i k hi hk
  obtain ⟨k, rfl⟩ : ∃ k', k = k' + 1 := ⟨k - 1, by omega⟩
  obtain rfl : i = l0.length := by omega
  unfold talikref04_Cost.l0
  rw [if_neg (by omega)]
 | succ m ih =>
  intro i k hi hk
  obtain ⟨k, rfl⟩ : ∃ k', k = k' + 1 := ⟨k - 1, by omega⟩
  have h := ih (i + 1) k (by omega) (by omega)
  unfold talikref04_Cost.l0
  rw [if_pos (by omega), has_eq x x0 x1 i (by omega) k (by omega), wsucc i (by omega)]
  simp only [Option.bind_some]
  cases hb : bitB x (i : Int) with
  | false =>
   rw [loopsOf_no x i hb] at h
   rw [if_neg (by simp), h]
  | true =>
   rw [loopsOf_yes x i hb, costV_snoc] at h
   rw [if_pos rfl, if_pos (by omega), h]
theorem rcost_eq {l0 : List S39} {l1 : List S37} {l2 : List (List Int)} (hn : l0.length ≤ 5) (x : Int) (x0 : 0 ≤ x) (x1 : x < ((2 ^ l0.length : Nat) : Int)) (k : Nat) (hk : 20 ≤ k) : talikref04_Cost.f k l0 l1 l2 x = some (costV l0 (qar x 5)) := by
 have hp : 2 ^ l0.length ≤ 2 ^ 5 := Nat.pow_le_pow_right (n := 2) (by decide) hn
 have h := rcost_go (l0 := l0) (l1 := l1) (l2 := l2) hn x x0 (by omega) l0.length 0 k (by omega) (by omega)
 rw [loops_same hn x0 x1] at h
 exact h
end Go.Proofs.Ytipphcjgdebecaa.PA
