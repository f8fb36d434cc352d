/- What functions of the program answer. No condition. -/
import Derived.RangeFuncNested
import Derived.RangeFuncBound
import Derived.RangeFuncCalls
import Derived.RangeFuncLeaves
import Derived.RangeFuncBox
import Derived.Shelf.Abstract
import Derived.Shelf.RegionOpen
import Derived.OwnWalkIn
import Derived.TacticsInMore
import Derived.LoopNIn
import Derived.LoopIn
import Derived.Recover
import Derived.Defers
import Derived.WalkLawsBesides
import Derived.WalkSmall
import Derived.Test.YtipphcjgdebecaaPlH
import Derived.Test.YtipphcjgdebecaaSC
import Derived.Test.YtipphcjgdebecaaSE
import Derived.Test.YtipphcjgdebecaaSL
import Derived.Test.YtipphcjgdebecaaPlC
import Derived.Test.YtipphcjgdebecaaPlB
import Derived.Test.YtipphcjgdebecaaPlG
import Derived.Test.YtipphcjgdebecaaSF
import Derived.Test.YtipphcjgdebecaaSK
import Derived.Test.YtipphcjgdebecaaPlA
set_option linter.all false
set_option maxRecDepth 100000
set_option maxHeartbeats 8000000
namespace Go.Proofs.Ytipphcjgdebecaa.PA
open Go.RowKit Go.Shelf Go.Proofs.YtipphcjgdebecaaW.PrintWords Go.Proofs.YtipphcjgdebecaaW.PrintLast Go.Proofs.YtipphcjgdebecaaW.PrintMore
attribute [local go_sem] qaw qay max_two min_two qas qat qax qaz
def weakN (l0 : List S39) (l1 : List S37) (l2 : List (List Int)) (a : Int) (fs : List Int) (s : Int) : Int := (weakP (orderV (wrappedL l0 s) l1 l2 a) 0 l1.length fs).1
def costN (l0 : List S39) (s : Int) : Int := costV l0 (qar s 5)
def stepW (l0 : List S39) (l1 : List S37) (l2 : List (List Int)) (a : Int) (fs : List Int) (b s : Int) : Int := if (b < 0 ∨ costN l0 s < costN l0 b) ∧ weakN l0 l1 l2 a fs s < 0 then s else b
def wtoR (l0 : List S39) (l1 : List S37) (l2 : List (List Int)) (a : Int) (fs : List Int) : Nat → Int
 | 0 => -1
 | k + 1 => stepW l0 l1 l2 a fs (wtoR l0 l1 l2 a fs k) k
theorem wtoR_bd (l0 : List S39) (l1 : List S37) (l2 : List (List Int)) (a : Int) (fs : List Int) : ∀ k, wtoR l0 l1 l2 a fs k < 0 ∨ (0 ≤ wtoR l0 l1 l2 a fs k ∧ wtoR l0 l1 l2 a fs k < k)
 | 0 => .inl (by show (-1 : Int) < 0; omega)
 | k + 1 => by
  have h := wtoR_bd l0 l1 l2 a fs k
  unfold wtoR stepW
  split <;> omega
def SomeNet (w : World) (l0 : List S39) (A1 : Value) (A2 : Value) (set : Int) (W : World) (e : Ending) (w' : World) : Prop := ∃ A c, e = .returned (.agg #[.slice A l0.length c, A1, A2]) ∧ l0.length ≤ c ∧ Kd.C k39 w' A l0.length (wrappedL l0 set) ∧ Below W.heap.size W w'
theorem rcost_calls (A0_0 : Option Addr) (c0_0 : Nat) (l0_0 : List S39) (A0_1 : Option Addr) (c0_1 : Nat) (l0_1 : List S37) (A0_2 : Option Addr) (c0_2 : Nat) (l0_2 : List (List Int)) (x : Int) (W : World) (hr0_0 : Kd.C k39 W A0_0 l0_0.length l0_0) (hc0_0 : l0_0.length ≤ c0_0) (hr0_1 : Kd.C k37 W A0_1 l0_1.length l0_1) (hc0_1 : l0_1.length ≤ c0_1) (hr0_2 : Kd.C (Kd.slice 3 (Kd.int .i64)) W A0_2 l0_2.length l0_2) (hc0_2 : l0_2.length ≤ c0_2) (hn : l0_0.length ≤ 5) (x0 : 0 ≤ x) (x1 : x < ((2 ^ l0_0.length : Nat) : Int)) :
  Calls Try.prog 41 #[.agg #[.slice A0_0 l0_0.length c0_0, .slice A0_1 l0_1.length c0_1, .slice A0_2 l0_2.length c0_2], .int .i64 x] W fun e w' => e = .returned (.int .i64 (costN l0_0 x)) ∧ Below W.heap.size W w' :=
 (talikref04_Cost.calls 20 _ _ l0_0 _ _ l0_1 _ _ l0_2 x _ W hr0_0 hc0_0 hr0_1 hc0_1 hr0_2 hc0_2 (rcost_eq hn x x0 x1 20 (by omega))).mono fun e w' ⟨h1, h2⟩ => ⟨h1, h2⟩
theorem rweakN_calls (A : Option Addr) (c : Nat) (l0_0 : List S39) (A0_1 : Option Addr) (c0_1 : Nat) (l0_1 : List S37) (A0_2 : Option Addr) (c0_2 : Nat) (l0_2 : List (List Int)) (a1 : Int) (A2 : Option Addr) (c2 : Nat) (l2 : List Int) (set : Int) (W : World) (hr0_0 : Kd.C k39 W A l0_0.length (wrappedL l0_0 set)) (hc0_0 : l0_0.length ≤ c) (hr0_1 : Kd.C k37 W A0_1 l0_1.length l0_1) (hc0_1 : l0_1.length ≤ c0_1) (hr0_2 : Kd.C (Kd.slice 3 (Kd.int .i64)) W A0_2 l0_2.length l0_2) (hc0_2 : l0_2.length ≤ c0_2) (hr2 : Kd.C (Kd.int .i64) W A2 l2.length l2) (hc2 : l2.length ≤ c2) (hok : FaultsOk l0_0 l0_1 l0_2 a1 l2) (hn : l0_0.length ≤ 4) :
  Calls Try.prog 45 #[.agg #[.slice A l0_0.length c, .slice A0_1 l0_1.length c0_1, .slice A0_2 l0_2.length c0_2], .int .i64 a1, .slice A2 l2.length c2] W fun e w' => e = .returned (.int .i64 (weakN l0_0 l0_1 l0_2 a1 l2 set)) ∧ Below W.heap.size W w' := by
 have hlen := hok.len
 have h := talikref04_Weak.calls 44300 A c (wrappedL l0_0 set) _ _ l0_1 _ _ l0_2 a1 _ _ l2 (weakN l0_0 l0_1 l0_2 a1 l2 set) W (by rw [wrappedL_length]; exact hr0_0) (by rw [wrappedL_length]; exact hc0_0) hr0_1 hc0_1 hr0_2 hc0_2 hr2 hc2 (by
  have h1 := rweak_go (by rw [wrappedL_length]; exact hn) (faultsOk_wrapped hok set) 0 l2.length 0 44300 (by omega) (by omega) (l0_1.length : Int)
  simpa [talikref04_Weak.f, weakN] using h1)
 rw [wrappedL_length] at h
 exact h.mono fun e w' ⟨h1, h2⟩ => ⟨h1, h2⟩
theorem rwrap_calls (A0_0 : Option Addr) (c0_0 : Nat) (l0_0 : List S39) (A0_1 : Option Addr) (c0_1 : Nat) (l0_1 : List S37) (A0_2 : Option Addr) (c0_2 : Nat) (l0_2 : List (List Int)) (a1 : Int) (A2 : Option Addr) (c2 : Nat) (l2 : List Int) (w : World) (hr0_0 : Kd.C k39 w A0_0 l0_0.length l0_0) (hc0_0 : l0_0.length ≤ c0_0) (hr0_1 : Kd.C k37 w A0_1 l0_1.length l0_1) (hc0_1 : l0_1.length ≤ c0_1) (hr0_2 : Kd.C (Kd.slice 3 (Kd.int .i64)) w A0_2 l0_2.length l0_2) (hc0_2 : l0_2.length ≤ c0_2) (hr2 : Kd.C (Kd.int .i64) w A2 l2.length l2) (hc2 : l2.length ≤ c2) (hok : FaultsOk l0_0 l0_1 l0_2 a1 l2) (hn : l0_0.length ≤ 4) :
  Calls Try.prog 40 #[.agg #[.slice A0_0 l0_0.length c0_0, .slice A0_1 l0_1.length c0_1, .slice A0_2 l0_2.length c0_2], .int .i64 a1, .slice A2 l2.length c2] w fun e w' => e = .returned (.int .i64 (wtoR l0_0 l0_1 l0_2 a1 l2 (2 ^ l0_0.length))) ∧ Below w.heap.size w w' := by
 have hu26 := Try.underlying26
 have HB := qab.mk (Below.refl w.heap.size w)
 have HR0 := qab.mk hr0_0
 have HR1 := qab.mk hr0_1
 have HR2 := qab.mk hr0_2
 have HRL := qab.mk hr2
 clear hr0_0 hr0_1 hr0_2 hr2
 have hp4 : 2 ^ l0_0.length ≤ 2 ^ 4 := Nat.pow_le_pow_right (n := 2) (by decide) hn
 obtain ⟨N, hN⟩ : ∃ N, N = 2 ^ l0_0.length := ⟨_, rfl⟩
 have HSETS : qab (∀ W, Below w.heap.size w W → Calls Try.prog 65 #[.agg #[.slice A0_0 l0_0.length c0_0, .slice A0_1 l0_1.length c0_1, .slice A0_2 l0_2.length c0_2]] W fun e w' => e = .returned (.int .i64 (N : Int)) ∧ Below W.heap.size W w') := ⟨fun W hW => (talikref04_Sets.calls 10 _ _ l0_0 _ _ l0_1 _ _ l0_2 _ W (Kd.qaj HR0.out hW) hc0_0 (Kd.qaj HR1.out hW) hc0_1 (Kd.qaj HR2.out hW) hc0_2 (by rw [hN]; exact sets_eq l0_0 l0_1 l0_2 (by omega) 10 (by omega))).mono fun e w' ⟨h1, h2⟩ => ⟨h1, h2⟩⟩
 have HCOST : qab (∀ x : Int, 0 ≤ x → x < N → ∀ W, Below w.heap.size w W → Calls Try.prog 41 #[.agg #[.slice A0_0 l0_0.length c0_0, .slice A0_1 l0_1.length c0_1, .slice A0_2 l0_2.length c0_2], .int .i64 x] W fun e w' => e = .returned (.int .i64 (costN l0_0 x)) ∧ Below W.heap.size W w') := ⟨fun x x0 x1 W hW => rcost_calls _ _ l0_0 _ _ l0_1 _ _ l0_2 x W (Kd.qaj HR0.out hW) hc0_0 (Kd.qaj HR1.out hW) hc0_1 (Kd.qaj HR2.out hW) hc0_2 (by omega) x0 (by rw [← hN]; exact x1)⟩
 have HWR : qab (∀ x : Int, 0 ≤ x → x < N → ∀ W, Below w.heap.size w W → Calls Try.prog 42 #[.agg #[.slice A0_0 l0_0.length c0_0, .slice A0_1 l0_1.length c0_1, .slice A0_2 l0_2.length c0_2], .int .i64 x] W (SomeNet w l0_0 (.slice A0_1 l0_1.length c0_1) (.slice A0_2 l0_2.length c0_2) x W)) := ⟨fun x x0 x1 W hW => (talikref04_Wrapped.calls _ _ l0_0 _ _ _ _ _ _ x W (Kd.qaj HR0.out hW) hc0_0 (by omega) x0 (by omega)).mono fun e w' h => h⟩
 have HWK : qab (∀ (x : Int) (A : Option Addr) (c : Nat), l0_0.length ≤ c → ∀ W, Below w.heap.size w W → Kd.C k39 W A l0_0.length (wrappedL l0_0 x) → Calls Try.prog 45 #[.agg #[.slice A l0_0.length c, .slice A0_1 l0_1.length c0_1, .slice A0_2 l0_2.length c0_2], .int .i64 a1, .slice A2 l2.length c2] W fun e w' => e = .returned (.int .i64 (weakN l0_0 l0_1 l0_2 a1 l2 x)) ∧ Below W.heap.size W w') := ⟨fun x A c hc W hW hC => rweakN_calls A c l0_0 _ _ l0_1 _ _ l0_2 a1 _ _ l2 x W hC hc (Kd.qaj HR1.out hW) hc0_1 (Kd.qaj HR2.out hW) hc0_2 (Kd.qaj HRL.out hW) hc2 hok hn⟩
 have hNs : N ≤ 16 := by omega
 rw [← hN]
 clear hN hp4
 go_enter Try.func40, Try.ntmps40
 go_wp2_with (first | (with_reducible refine qan (N := 3) rfl ?_); refine qam ?hg (N := 3) ?hd (cs := #[.slice A0_0 l0_0.length c0_0, .slice A0_1 l0_1.length c0_1, .slice A0_2 l0_2.length c0_2]) (t := 26) ?hr ?_; (case hd => rfl); (case hg => rfl); (case hr => first | (go_simp; done) | (go_simp; rfl)); intro gb hg_gb w2 hbox hb; have BKgb := qab.mk hbox; have n_HB := qab.mk (qad HB.out hb); have GEgb : w.heap.size ≤ gb := (by rw [hg_gb]; exact HB.out.size); clear HB; have HB := n_HB; clear n_HB; obtain ⟨hfgb, hcgb_0, hcgb_1, hcgb_2⟩ := qz3 BKgb.out; clear hbox hb hg_gb)
 clear hfgb hcgb_0 hcgb_1 hcgb_2
 have HI : qab (BIN w gb #[.slice A0_0 l0_0.length c0_0, .slice A0_1 l0_1.length c0_1, .slice A0_2 l0_2.length c0_2] w2) := ⟨⟨BKgb.out, HB.out⟩⟩
 clear BKgb HB GEgb
 go_loopw [7, 8] (fun s7 s8 wr => ∃ k : Nat, k ≤ N ∧ s7 = .int .i64 (wtoR l0_0 l0_1 l0_2 a1 l2 k) ∧ s8 = .int .i64 k ∧ qab (BIN w gb #[.slice A0_0 l0_0.length c0_0, .slice A0_1 l0_1.length c0_1, .slice A0_2 l0_2.length c0_2] wr)) (fun _ s _ => N - (intOf s).toNat)
 case atStart => exact ⟨0, by omega, rfl, rfl, HI⟩
 case round =>
  clear HI
  obtain ⟨k, hk, rfl, rfl, HI⟩ := hrel
  have hbd := wtoR_bd l0_0 l0_1 l0_2 a1 l2 k
  obtain ⟨b, hb⟩ : ∃ b, b = wtoR l0_0 l0_1 l0_2 a1 l2 k := ⟨_, rfl⟩
  have HST : qab (wtoR l0_0 l0_1 l0_2 a1 l2 (k + 1) = stepW l0_0 l0_1 l0_2 a1 l2 b k) := ⟨by rw [hb]; rfl⟩
  rw [← hb] at hbd ⊢
  have hq0 : wr.cell? ⟨gb, 0, none⟩ = some (.slice A0_0 l0_0.length c0_0) := (qaa HI.out.b 0).trans rfl; have hq1 : wr.cell? ⟨gb, 1, none⟩ = some (.slice A0_1 l0_1.length c0_1) := (qaa HI.out.b 1).trans rfl; have hq2 : wr.cell? ⟨gb, 2, none⟩ = some (.slice A0_2 l0_2.length c0_2) := (qaa HI.out.b 2).trans rfl
  by_cases hlt : k < N
  ·
   have hlt1 : (k : Int) < N := by omega
   have hk0 : (0 : Int) ≤ k := by omega
   have d0 : decide ((k : Int) < (N : Int)) = true := decide_eq_true hlt1
   clear hb
   obtain ⟨x, hx⟩ : ∃ x, x = weakN l0_0 l0_1 l0_2 a1 l2 k := ⟨_, rfl⟩
   have HW1 := qab.mk (HWK.out (k : Int))
   rw [← hx] at HW1
   have HR1' := qab.mk (HWR.out (k : Int) hk0 hlt1)
   have HX := qab.mk hx
   clear hx
   have HT : qab (∀ W, BIN w gb #[.slice A0_0 l0_0.length c0_0, .slice A0_1 l0_1.length c0_1, .slice A0_2 l0_2.length c0_2] W → (W.cell? ⟨gb, 0, none⟩ = some (.slice A0_0 l0_0.length c0_0) ∧ W.cell? ⟨gb, 1, none⟩ = some (.slice A0_1 l0_1.length c0_1) ∧ W.cell? ⟨gb, 2, none⟩ = some (.slice A0_2 l0_2.length c0_2) ∧ qab (BIN w gb #[.slice A0_0 l0_0.length c0_0, .slice A0_1 l0_1.length c0_1, .slice A0_2 l0_2.length c0_2] W))) := ⟨fun W h => ⟨qaa h.b 0, qaa h.b 1, qaa h.b 2, ⟨h⟩⟩⟩
   rcases hbd with hb0 | ⟨hb0, hb1⟩
   ·
    have d1 : decide (b < 0) = true := decide_eq_true hb0
    by_cases hx : x < 0
    ·
     have d2 : decide (x < 0) = true := decide_eq_true hx
     have HS : qab (wtoR l0_0 l0_1 l0_2 a1 l2 (k + 1) = (k : Int)) := ⟨by rw [HST.out]; unfold stepW; rw [if_pos ⟨.inl hb0, by rw [← HX.out]; exact hx⟩]⟩
     go_upto_region 5 with (first | (go_at_call 65; with_reducible refine (HSETS.out _ HI.out.hb).mono ?_; rintro e wO ⟨rfl, hb⟩; replace HI := qab.mk (HI.out.below hb); clear hb hq0 hq1 hq2; have hq0 : wO.cell? ⟨gb, 0, none⟩ = some (.slice A0_0 l0_0.length c0_0) := (qaa HI.out.b 0).trans rfl; have hq1 : wO.cell? ⟨gb, 1, none⟩ = some (.slice A0_1 l0_1.length c0_1) := (qaa HI.out.b 1).trans rfl; have hq2 : wO.cell? ⟨gb, 2, none⟩ = some (.slice A0_2 l0_2.length c0_2) := (qaa HI.out.b 2).trans rfl))
     refine start_ (n := 20) (S := (fun w' => (w'.cell? ⟨gb, 0, none⟩ = some (.slice A0_0 l0_0.length c0_0) ∧ w'.cell? ⟨gb, 1, none⟩ = some (.slice A0_1 l0_1.length c0_1) ∧ w'.cell? ⟨gb, 2, none⟩ = some (.slice A0_2 l0_2.length c0_2) ∧ qab (BIN w gb #[.slice A0_0 l0_0.length c0_0, .slice A0_1 l0_1.length c0_1, .slice A0_2 l0_2.length c0_2] w')))) (ds := []) (msk 20 0) (by kernel_rfl) rfl rfl (HT.out wO.drew (BIN.below HI.out (qbb (Below.refl _ _)))) (fun hHeld => ?_)
     refine pure_ (i := 0) (N := some 15) (v := ?_) (a' := ?_) (msk 20 1) rfl rfl (by kernel_rfl) (fun _ _ _ h => h) (Or.inl ⟨by rfl, ?_⟩) ?_ ?_; rotate_left; (focus (intro w'; go_simp; with_reducible rfl)); rotate_left; (focus (simp only [Act.put, qzA, qzB, qzC, i64_w, i32_w]; rfl))
     refine pure_ (i := 1) (N := some 16) (v := ?_) (a' := ?_) (msk 20 2) rfl rfl (by kernel_rfl) (fun _ _ _ h => h) (Or.inl ⟨by rfl, ?_⟩) ?_ ?_; rotate_left; (focus (intro w'; go_simp; with_reducible rfl)); rotate_left; (focus (simp only [Act.put, qzA, qzB, qzC, i64_w, i32_w]; rfl))
     refine pure_ (i := 2) (N := some 17) (v := ?_) (a' := ?_) (msk 20 3) rfl rfl (by kernel_rfl) (fun _ _ _ h => h) (Or.inl ⟨by rfl, ?_⟩) ?_ ?_; rotate_left; (focus (intro w'; go_simp; with_reducible rfl)); rotate_left; (focus (simp only [Act.put, qzA, qzB, qzC, i64_w, i32_w]; rfl))
     refine pure_ (i := 3) (N := some 18) (v := undef) (a' := ?_) (msk 20 4) rfl rfl (by kernel_rfl) (fun _ _ _ h => h) (Or.inr ⟨by rfl, rfl⟩) ?_ ?_; rotate_left; (focus (simp only [Act.put, qzA, qzB, qzC, i64_w, i32_w]; rfl))
     refine pure_ (i := 4) (N := some 19) (v := undef) (a' := ?_) (msk 20 5) rfl rfl (by kernel_rfl) (fun _ _ _ h => h) (Or.inr ⟨by rfl, rfl⟩) ?_ ?_; rotate_left; (focus (simp only [Act.put, qzA, qzB, qzC, i64_w, i32_w]; rfl))
     refine pure_ (i := 5) (N := some 20) (v := undef) (a' := ?_) (msk 20 6) rfl rfl (by kernel_rfl) (fun _ _ _ h => h) (Or.inr ⟨by rfl, rfl⟩) ?_ ?_; rotate_left; (focus (simp only [Act.put, qzA, qzB, qzC, i64_w, i32_w]; rfl))
     refine pure_ (i := 6) (N := some 21) (v := undef) (a' := ?_) (msk 20 7) rfl rfl (by kernel_rfl) (fun _ _ _ h => h) (Or.inr ⟨by rfl, rfl⟩) ?_ ?_; rotate_left; (focus (simp only [Act.put, qzA, qzB, qzC, i64_w, i32_w]; rfl))
     refine pure_ (i := 7) (N := some 22) (v := undef) (a' := ?_) (msk 20 8) rfl rfl (by kernel_rfl) (fun _ _ _ h => h) (Or.inr ⟨by rfl, rfl⟩) ?_ ?_; rotate_left; (focus (simp only [Act.put, qzA, qzB, qzC, i64_w, i32_w]; rfl))
     refine pure_ (i := 8) (N := some 23) (v := undef) (a' := ?_) (msk 20 9) rfl rfl (by kernel_rfl) (fun _ _ _ h => h) (Or.inr ⟨by rfl, rfl⟩) ?_ ?_; rotate_left; (focus (simp only [Act.put, qzA, qzB, qzC, i64_w, i32_w]; rfl))
     refine pure_ (i := 9) (N := some 24) (v := undef) (a' := ?_) (msk 20 10) rfl rfl (by kernel_rfl) (fun _ _ _ h => h) (Or.inr ⟨by rfl, rfl⟩) ?_ ?_; rotate_left; (focus (simp only [Act.put, qzA, qzB, qzC, i64_w, i32_w]; rfl))
     refine pure_ (i := 10) (N := some 25) (v := ?_) (a' := ?_) (msk 20 11) rfl rfl (by kernel_rfl) (fun _ _ _ h => h) (Or.inl ⟨by rfl, ?_⟩) ?_ ?_; rotate_left; (focus (intro w'; go_simp; with_reducible rfl)); rotate_left; (focus (simp only [Act.put, qzA, qzB, qzC, i64_w, i32_w]; rfl))
     refine pure_ (i := 11) (N := some 26) (v := ?_) (a' := ?_) (msk 20 12) rfl rfl (by kernel_rfl) (fun _ _ _ h => h) (Or.inl ⟨by rfl, ?_⟩) ?_ ?_; rotate_left; (focus (intro w'; go_simp; with_reducible rfl)); rotate_left; (focus (simp only [Act.put, qzA, qzB, qzC, i64_w, i32_w]; rfl))
     refine take_ (i := 12) (N := some 27) (v := ?_) (a' := ?_) (msk 20 13) rfl rfl (by kernel_rfl) (fun _ _ _ h => h) (Or.inl ⟨by rfl, ?_⟩) hHeld ?_ ?_; rotate_left; (focus (rintro w' ⟨s0, s1, s2, s3⟩; go_simp; with_reducible rfl)); rotate_left; (focus (simp only [Act.put, qzA, qzB, qzC, i64_w, i32_w]; rfl))
     refine pure_ (i := 13) (N := some 28) (v := ?_) (a' := ?_) (msk 20 14) rfl rfl (by kernel_rfl) (fun _ _ _ h => h) (Or.inl ⟨by rfl, ?_⟩) ?_ ?_; rotate_left; (focus (intro w'; go_simp; with_reducible rfl)); rotate_left; (focus (simp only [Act.put, qzA, qzB, qzC, i64_w, i32_w]; rfl))
     refine pure_ (i := 15) (N := some 30) (v := ?_) (a' := ?_) #[true, true, true, true, true, true, true, true, true, true, true, true, true, true, false, true, false, false, false, false] rfl rfl (by kernel_rfl) (fun _ _ _ h => h) (Or.inl ⟨by rfl, ?_⟩) ?_ ?_; rotate_left; (focus (intro w'; go_simp; with_reducible rfl)); rotate_left; (focus (simp only [Act.put, qzA, qzB, qzC, i64_w, i32_w]; rfl))
     refine pure_ (i := 16) (N := some 31) (v := ?_) (a' := ?_) #[true, true, true, true, true, true, true, true, true, true, true, true, true, true, false, true, true, false, false, false] rfl rfl (by kernel_rfl) (fun _ _ _ h => h) (Or.inl ⟨by rfl, ?_⟩) ?_ ?_; rotate_left; (focus (intro w'; go_simp; with_reducible rfl)); rotate_left; (focus (simp only [Act.put, qzA, qzB, qzC, i64_w, i32_w]; rfl))
     refine one_ (i := 14) (N := some 29) (msk 20 17) rfl rfl (by kernel_rfl) (by decide) (fun K hK => ?_)
     refine goes_ Try.func42 (by kernel_rfl) rfl #[.agg #[.slice A0_0 l0_0.length c0_0, .slice A0_1 l0_1.length c0_1, .slice A0_2 l0_2.length c0_2], .int .i64 k] (by rfl) rfl rfl (by (try simp only [List.map_toArray, List.map_cons, List.map_nil]); first | done | rfl | (simp only [List.length_drop, List.length_take]; rfl)) ?_
     refine (HR1'.out _ hHeld.2.2.2.out.hb).mono ?_; rintro e w7 ⟨A, c, rfl, hAc, hAC, hb⟩; have HP7 := qab.mk (HT.out w7 (BIN.below hHeld.2.2.2.out hb)); have HAC := qab.mk hAC; clear hb hAC; refine ⟨_, rfl, ?_⟩; refine hK.out _ _ HP7.out (fun hHeld => ?_); clear hK K; refine norm_ (a' := ?_) ?_ ?_; rotate_left; (focus (show Act.put _ (some 29) _ = _; simp only [Act.put, qzA, qzB, qzC, i64_w, i32_w]; rfl))
     refine one_ (i := 17) (N := some 32) (msk 20 18) rfl rfl (by kernel_rfl) (by decide) (fun K hK => ?_)
     refine goes_ Try.func45 (by kernel_rfl) rfl #[.agg #[.slice A l0_0.length c, .slice A0_1 l0_1.length c0_1, .slice A0_2 l0_2.length c0_2], .int .i64 a1, .slice A2 l2.length c2] (by rfl) rfl rfl (by (try simp only [List.map_toArray, List.map_cons, List.map_nil]); first | done | rfl | (simp only [List.length_drop, List.length_take]; rfl)) ?_
     refine (HW1.out A c hAc _ hHeld.2.2.2.out.hb HAC.out).mono ?_; rintro e w8 ⟨rfl, hb⟩; have HP8 := qab.mk (HT.out w8 (BIN.below hHeld.2.2.2.out hb)); clear hb; refine ⟨_, rfl, ?_⟩; refine hK.out _ _ HP8.out (fun hHeld => ?_); clear hK K; refine norm_ (a' := ?_) ?_ ?_; rotate_left; (focus (show Act.put _ (some 32) _ = _; simp only [Act.put, qzA, qzB, qzC, i64_w, i32_w]; rfl))
     refine pure_ (i := 18) (N := some 33) (v := ?_) (a' := ?_) (msk 20 19) rfl rfl (by kernel_rfl) (fun _ _ _ h => h) (Or.inl ⟨by rfl, ?_⟩) ?_ ?_; rotate_left; (focus (intro w'; go_simp; with_reducible rfl)); rotate_left; (focus (simp only [Act.put, qzA, qzB, qzC, i64_w, i32_w]; rfl))
     refine pure_ (i := 19) (N := some 34) (v := ?_) (a' := ?_) (msk 20 20) rfl rfl (by kernel_rfl) (fun _ _ _ h => h) (Or.inl ⟨by rfl, ?_⟩) ?_ ?_; rotate_left; (focus (intro w'; go_simp; with_reducible rfl)); rotate_left; (focus (simp only [Act.put, qzA, qzB, qzC, i64_w, i32_w]; rfl))
     refine done_ (by kernel_rfl) ?_
     go_wp2_with fail
     go_roundw
     case rel => exact ⟨k + 1, by omega, by rw [HS.out], by go_num, HP8.out.2.2.2⟩
     case measure => simp [intOf]; omega
    ·
     have d2 : decide (x < 0) = false := decide_eq_false hx
     have HS : qab (wtoR l0_0 l0_1 l0_2 a1 l2 (k + 1) = b) := ⟨by rw [HST.out]; unfold stepW; rw [if_neg (fun h => hx (by rw [HX.out]; exact h.2))]⟩
     go_upto_region 5 with (first | (go_at_call 65; with_reducible refine (HSETS.out _ HI.out.hb).mono ?_; rintro e wO ⟨rfl, hb⟩; replace HI := qab.mk (HI.out.below hb); clear hb hq0 hq1 hq2; have hq0 : wO.cell? ⟨gb, 0, none⟩ = some (.slice A0_0 l0_0.length c0_0) := (qaa HI.out.b 0).trans rfl; have hq1 : wO.cell? ⟨gb, 1, none⟩ = some (.slice A0_1 l0_1.length c0_1) := (qaa HI.out.b 1).trans rfl; have hq2 : wO.cell? ⟨gb, 2, none⟩ = some (.slice A0_2 l0_2.length c0_2) := (qaa HI.out.b 2).trans rfl))
     refine start_ (n := 20) (S := (fun w' => (w'.cell? ⟨gb, 0, none⟩ = some (.slice A0_0 l0_0.length c0_0) ∧ w'.cell? ⟨gb, 1, none⟩ = some (.slice A0_1 l0_1.length c0_1) ∧ w'.cell? ⟨gb, 2, none⟩ = some (.slice A0_2 l0_2.length c0_2) ∧ qab (BIN w gb #[.slice A0_0 l0_0.length c0_0, .slice A0_1 l0_1.length c0_1, .slice A0_2 l0_2.length c0_2] w')))) (ds := []) (msk 20 0) (by kernel_rfl) rfl rfl (HT.out wO.drew (BIN.below HI.out (qbb (Below.refl _ _)))) (fun hHeld => ?_)
     refine pure_ (i := 0) (N := some 15) (v := ?_) (a' := ?_) (msk 20 1) rfl rfl (by kernel_rfl) (fun _ _ _ h => h) (Or.inl ⟨by rfl, ?_⟩) ?_ ?_; rotate_left; (focus (intro w'; go_simp; with_reducible rfl)); rotate_left; (focus (simp only [Act.put, qzA, qzB, qzC, i64_w, i32_w]; rfl))
     refine pure_ (i := 1) (N := some 16) (v := ?_) (a' := ?_) (msk 20 2) rfl rfl (by kernel_rfl) (fun _ _ _ h => h) (Or.inl ⟨by rfl, ?_⟩) ?_ ?_; rotate_left; (focus (intro w'; go_simp; with_reducible rfl)); rotate_left; (focus (simp only [Act.put, qzA, qzB, qzC, i64_w, i32_w]; rfl))
     refine pure_ (i := 2) (N := some 17) (v := ?_) (a' := ?_) (msk 20 3) rfl rfl (by kernel_rfl) (fun _ _ _ h => h) (Or.inl ⟨by rfl, ?_⟩) ?_ ?_; rotate_left; (focus (intro w'; go_simp; with_reducible rfl)); rotate_left; (focus (simp only [Act.put, qzA, qzB, qzC, i64_w, i32_w]; rfl))
     refine pure_ (i := 3) (N := some 18) (v := undef) (a' := ?_) (msk 20 4) rfl rfl (by kernel_rfl) (fun _ _ _ h => h) (Or.inr ⟨by rfl, rfl⟩) ?_ ?_; rotate_left; (focus (simp only [Act.put, qzA, qzB, qzC, i64_w, i32_w]; rfl))
     refine pure_ (i := 4) (N := some 19) (v := undef) (a' := ?_) (msk 20 5) rfl rfl (by kernel_rfl) (fun _ _ _ h => h) (Or.inr ⟨by rfl, rfl⟩) ?_ ?_; rotate_left; (focus (simp only [Act.put, qzA, qzB, qzC, i64_w, i32_w]; rfl))
     refine pure_ (i := 5) (N := some 20) (v := undef) (a' := ?_) (msk 20 6) rfl rfl (by kernel_rfl) (fun _ _ _ h => h) (Or.inr ⟨by rfl, rfl⟩) ?_ ?_; rotate_left; (focus (simp only [Act.put, qzA, qzB, qzC, i64_w, i32_w]; rfl))
     refine pure_ (i := 6) (N := some 21) (v := undef) (a' := ?_) (msk 20 7) rfl rfl (by kernel_rfl) (fun _ _ _ h => h) (Or.inr ⟨by rfl, rfl⟩) ?_ ?_; rotate_left; (focus (simp only [Act.put, qzA, qzB, qzC, i64_w, i32_w]; rfl))
     refine pure_ (i := 7) (N := some 22) (v := undef) (a' := ?_) (msk 20 8) rfl rfl (by kernel_rfl) (fun _ _ _ h => h) (Or.inr ⟨by rfl, rfl⟩) ?_ ?_; rotate_left; (focus (simp only [Act.put, qzA, qzB, qzC, i64_w, i32_w]; rfl))
     refine pure_ (i := 8) (N := some 23) (v := undef) (a' := ?_) (msk 20 9) rfl rfl (by kernel_rfl) (fun _ _ _ h => h) (Or.inr ⟨by rfl, rfl⟩) ?_ ?_; rotate_left; (focus (simp only [Act.put, qzA, qzB, qzC, i64_w, i32_w]; rfl))
     refine pure_ (i := 9) (N := some 24) (v := undef) (a' := ?_) (msk 20 10) rfl rfl (by kernel_rfl) (fun _ _ _ h => h) (Or.inr ⟨by rfl, rfl⟩) ?_ ?_; rotate_left; (focus (simp only [Act.put, qzA, qzB, qzC, i64_w, i32_w]; rfl))
     refine pure_ (i := 10) (N := some 25) (v := ?_) (a' := ?_) (msk 20 11) rfl rfl (by kernel_rfl) (fun _ _ _ h => h) (Or.inl ⟨by rfl, ?_⟩) ?_ ?_; rotate_left; (focus (intro w'; go_simp; with_reducible rfl)); rotate_left; (focus (simp only [Act.put, qzA, qzB, qzC, i64_w, i32_w]; rfl))
     refine pure_ (i := 11) (N := some 26) (v := ?_) (a' := ?_) (msk 20 12) rfl rfl (by kernel_rfl) (fun _ _ _ h => h) (Or.inl ⟨by rfl, ?_⟩) ?_ ?_; rotate_left; (focus (intro w'; go_simp; with_reducible rfl)); rotate_left; (focus (simp only [Act.put, qzA, qzB, qzC, i64_w, i32_w]; rfl))
     refine take_ (i := 12) (N := some 27) (v := ?_) (a' := ?_) (msk 20 13) rfl rfl (by kernel_rfl) (fun _ _ _ h => h) (Or.inl ⟨by rfl, ?_⟩) hHeld ?_ ?_; rotate_left; (focus (rintro w' ⟨s0, s1, s2, s3⟩; go_simp; with_reducible rfl)); rotate_left; (focus (simp only [Act.put, qzA, qzB, qzC, i64_w, i32_w]; rfl))
     refine pure_ (i := 13) (N := some 28) (v := ?_) (a' := ?_) (msk 20 14) rfl rfl (by kernel_rfl) (fun _ _ _ h => h) (Or.inl ⟨by rfl, ?_⟩) ?_ ?_; rotate_left; (focus (intro w'; go_simp; with_reducible rfl)); rotate_left; (focus (simp only [Act.put, qzA, qzB, qzC, i64_w, i32_w]; rfl))
     refine pure_ (i := 15) (N := some 30) (v := ?_) (a' := ?_) #[true, true, true, true, true, true, true, true, true, true, true, true, true, true, false, true, false, false, false, false] rfl rfl (by kernel_rfl) (fun _ _ _ h => h) (Or.inl ⟨by rfl, ?_⟩) ?_ ?_; rotate_left; (focus (intro w'; go_simp; with_reducible rfl)); rotate_left; (focus (simp only [Act.put, qzA, qzB, qzC, i64_w, i32_w]; rfl))
     refine pure_ (i := 16) (N := some 31) (v := ?_) (a' := ?_) #[true, true, true, true, true, true, true, true, true, true, true, true, true, true, false, true, true, false, false, false] rfl rfl (by kernel_rfl) (fun _ _ _ h => h) (Or.inl ⟨by rfl, ?_⟩) ?_ ?_; rotate_left; (focus (intro w'; go_simp; with_reducible rfl)); rotate_left; (focus (simp only [Act.put, qzA, qzB, qzC, i64_w, i32_w]; rfl))
     refine one_ (i := 14) (N := some 29) (msk 20 17) rfl rfl (by kernel_rfl) (by decide) (fun K hK => ?_)
     refine goes_ Try.func42 (by kernel_rfl) rfl #[.agg #[.slice A0_0 l0_0.length c0_0, .slice A0_1 l0_1.length c0_1, .slice A0_2 l0_2.length c0_2], .int .i64 k] (by rfl) rfl rfl (by (try simp only [List.map_toArray, List.map_cons, List.map_nil]); first | done | rfl | (simp only [List.length_drop, List.length_take]; rfl)) ?_
     refine (HR1'.out _ hHeld.2.2.2.out.hb).mono ?_; rintro e w7 ⟨A, c, rfl, hAc, hAC, hb⟩; have HP7 := qab.mk (HT.out w7 (BIN.below hHeld.2.2.2.out hb)); have HAC := qab.mk hAC; clear hb hAC; refine ⟨_, rfl, ?_⟩; refine hK.out _ _ HP7.out (fun hHeld => ?_); clear hK K; refine norm_ (a' := ?_) ?_ ?_; rotate_left; (focus (show Act.put _ (some 29) _ = _; simp only [Act.put, qzA, qzB, qzC, i64_w, i32_w]; rfl))
     refine one_ (i := 17) (N := some 32) (msk 20 18) rfl rfl (by kernel_rfl) (by decide) (fun K hK => ?_)
     refine goes_ Try.func45 (by kernel_rfl) rfl #[.agg #[.slice A l0_0.length c, .slice A0_1 l0_1.length c0_1, .slice A0_2 l0_2.length c0_2], .int .i64 a1, .slice A2 l2.length c2] (by rfl) rfl rfl (by (try simp only [List.map_toArray, List.map_cons, List.map_nil]); first | done | rfl | (simp only [List.length_drop, List.length_take]; rfl)) ?_
     refine (HW1.out A c hAc _ hHeld.2.2.2.out.hb HAC.out).mono ?_; rintro e w8 ⟨rfl, hb⟩; have HP8 := qab.mk (HT.out w8 (BIN.below hHeld.2.2.2.out hb)); clear hb; refine ⟨_, rfl, ?_⟩; refine hK.out _ _ HP8.out (fun hHeld => ?_); clear hK K; refine norm_ (a' := ?_) ?_ ?_; rotate_left; (focus (show Act.put _ (some 32) _ = _; simp only [Act.put, qzA, qzB, qzC, i64_w, i32_w]; rfl))
     refine pure_ (i := 18) (N := some 33) (v := ?_) (a' := ?_) (msk 20 19) rfl rfl (by kernel_rfl) (fun _ _ _ h => h) (Or.inl ⟨by rfl, ?_⟩) ?_ ?_; rotate_left; (focus (intro w'; go_simp; with_reducible rfl)); rotate_left; (focus (simp only [Act.put, qzA, qzB, qzC, i64_w, i32_w]; rfl))
     refine pure_ (i := 19) (N := some 34) (v := ?_) (a' := ?_) (msk 20 20) rfl rfl (by kernel_rfl) (fun _ _ _ h => h) (Or.inl ⟨by rfl, ?_⟩) ?_ ?_; rotate_left; (focus (intro w'; go_simp; with_reducible rfl)); rotate_left; (focus (simp only [Act.put, qzA, qzB, qzC, i64_w, i32_w]; rfl))
     refine done_ (by kernel_rfl) ?_
     go_wp2_with fail
     go_roundw
     case rel => exact ⟨k + 1, by omega, by rw [HS.out], by go_num, HP8.out.2.2.2⟩
     case measure => simp [intOf]; omega
   ·
    have hn0 : ¬ b < 0 := by omega
    have d1 : decide (b < 0) = false := decide_eq_false hn0
    obtain ⟨y, hy⟩ : ∃ y, y = costN l0_0 k := ⟨_, rfl⟩
    obtain ⟨z, hz⟩ : ∃ z, z = costN l0_0 b := ⟨_, rfl⟩
    have HC1 := qab.mk (HCOST.out (k : Int) hk0 hlt1)
    have HC2 := qab.mk (HCOST.out b hb0 (by omega))
    rw [← hy] at HC1
    rw [← hz] at HC2
    by_cases hc : y < z
    ·
     have d3 : decide (y < z) = true := decide_eq_true hc
     by_cases hx : x < 0
     ·
      have d2 : decide (x < 0) = true := decide_eq_true hx
      have HS : qab (wtoR l0_0 l0_1 l0_2 a1 l2 (k + 1) = (k : Int)) := ⟨by rw [HST.out]; unfold stepW; rw [if_pos ⟨.inr (by rw [← hy, ← hz]; exact hc), by rw [← HX.out]; exact hx⟩]⟩
      clear hy hz
      go_upto_region 5 with (first | (go_at_call 65; with_reducible refine (HSETS.out _ HI.out.hb).mono ?_; rintro e wO ⟨rfl, hb⟩; replace HI := qab.mk (HI.out.below hb); clear hb hq0 hq1 hq2; have hq0 : wO.cell? ⟨gb, 0, none⟩ = some (.slice A0_0 l0_0.length c0_0) := (qaa HI.out.b 0).trans rfl; have hq1 : wO.cell? ⟨gb, 1, none⟩ = some (.slice A0_1 l0_1.length c0_1) := (qaa HI.out.b 1).trans rfl; have hq2 : wO.cell? ⟨gb, 2, none⟩ = some (.slice A0_2 l0_2.length c0_2) := (qaa HI.out.b 2).trans rfl))
      refine start_ (n := 20) (S := (fun w' => (w'.cell? ⟨gb, 0, none⟩ = some (.slice A0_0 l0_0.length c0_0) ∧ w'.cell? ⟨gb, 1, none⟩ = some (.slice A0_1 l0_1.length c0_1) ∧ w'.cell? ⟨gb, 2, none⟩ = some (.slice A0_2 l0_2.length c0_2) ∧ qab (BIN w gb #[.slice A0_0 l0_0.length c0_0, .slice A0_1 l0_1.length c0_1, .slice A0_2 l0_2.length c0_2] w')))) (ds := []) (msk 20 0) (by kernel_rfl) rfl rfl (HT.out wO.drew (BIN.below HI.out (qbb (Below.refl _ _)))) (fun hHeld => ?_)
      refine pure_ (i := 0) (N := some 15) (v := ?_) (a' := ?_) (msk 20 1) rfl rfl (by kernel_rfl) (fun _ _ _ h => h) (Or.inl ⟨by rfl, ?_⟩) ?_ ?_; rotate_left; (focus (intro w'; go_simp; with_reducible rfl)); rotate_left; (focus (simp only [Act.put, qzA, qzB, qzC, i64_w, i32_w]; rfl))
      refine pure_ (i := 1) (N := some 16) (v := ?_) (a' := ?_) (msk 20 2) rfl rfl (by kernel_rfl) (fun _ _ _ h => h) (Or.inl ⟨by rfl, ?_⟩) ?_ ?_; rotate_left; (focus (intro w'; go_simp; with_reducible rfl)); rotate_left; (focus (simp only [Act.put, qzA, qzB, qzC, i64_w, i32_w]; rfl))
      refine pure_ (i := 2) (N := some 17) (v := ?_) (a' := ?_) (msk 20 3) rfl rfl (by kernel_rfl) (fun _ _ _ h => h) (Or.inl ⟨by rfl, ?_⟩) ?_ ?_; rotate_left; (focus (intro w'; go_simp; with_reducible rfl)); rotate_left; (focus (simp only [Act.put, qzA, qzB, qzC, i64_w, i32_w]; rfl))
      refine take_ (i := 3) (N := some 18) (v := ?_) (a' := ?_) (msk 20 4) rfl rfl (by kernel_rfl) (fun _ _ _ h => h) (Or.inl ⟨by rfl, ?_⟩) hHeld ?_ ?_; rotate_left; (focus (rintro w' ⟨s0, s1, s2, s3⟩; go_simp; with_reducible rfl)); rotate_left; (focus (simp only [Act.put, qzA, qzB, qzC, i64_w, i32_w]; rfl))
      refine pure_ (i := 4) (N := some 19) (v := ?_) (a' := ?_) (msk 20 5) rfl rfl (by kernel_rfl) (fun _ _ _ h => h) (Or.inl ⟨by rfl, ?_⟩) ?_ ?_; rotate_left; (focus (intro w'; go_simp; with_reducible rfl)); rotate_left; (focus (simp only [Act.put, qzA, qzB, qzC, i64_w, i32_w]; rfl))
      refine take_ (i := 6) (N := some 21) (v := ?_) (a' := ?_) #[true, true, true, true, true, false, true, false, false, false, false, false, false, false, false, false, false, false, false, false] rfl rfl (by kernel_rfl) (fun _ _ _ h => h) (Or.inl ⟨by rfl, ?_⟩) hHeld ?_ ?_; rotate_left; (focus (rintro w' ⟨s0, s1, s2, s3⟩; go_simp; with_reducible rfl)); rotate_left; (focus (simp only [Act.put, qzA, qzB, qzC, i64_w, i32_w]; rfl))
      refine pure_ (i := 7) (N := some 22) (v := ?_) (a' := ?_) #[true, true, true, true, true, false, true, true, false, false, false, false, false, false, false, false, false, false, false, false] rfl rfl (by kernel_rfl) (fun _ _ _ h => h) (Or.inl ⟨by rfl, ?_⟩) ?_ ?_; rotate_left; (focus (intro w'; go_simp; with_reducible rfl)); rotate_left; (focus (simp only [Act.put, qzA, qzB, qzC, i64_w, i32_w]; rfl))
      refine one_ (i := 5) (N := some 20) (msk 20 8) rfl rfl (by kernel_rfl) (by decide) (fun K hK => ?_)
      refine goes_ Try.func41 (by kernel_rfl) rfl #[.agg #[.slice A0_0 l0_0.length c0_0, .slice A0_1 l0_1.length c0_1, .slice A0_2 l0_2.length c0_2], .int .i64 k] (by rfl) rfl rfl (by (try simp only [List.map_toArray, List.map_cons, List.map_nil]); first | done | rfl | (simp only [List.length_drop, List.length_take]; rfl)) ?_
      refine (HC1.out _ hHeld.2.2.2.out.hb).mono ?_; rintro e w5 ⟨rfl, hb⟩; have HP5 := qab.mk (HT.out w5 (BIN.below hHeld.2.2.2.out hb)); clear hb; refine ⟨_, rfl, ?_⟩; refine hK.out _ _ HP5.out (fun hHeld => ?_); clear hK K; refine norm_ (a' := ?_) ?_ ?_; rotate_left; (focus (show Act.put _ (some 20) _ = _; simp only [Act.put, qzA, qzB, qzC, i64_w, i32_w]; rfl))
      refine one_ (i := 8) (N := some 23) (msk 20 9) rfl rfl (by kernel_rfl) (by decide) (fun K hK => ?_)
      refine goes_ Try.func41 (by kernel_rfl) rfl #[.agg #[.slice A0_0 l0_0.length c0_0, .slice A0_1 l0_1.length c0_1, .slice A0_2 l0_2.length c0_2], .int .i64 b] (by rfl) rfl rfl (by (try simp only [List.map_toArray, List.map_cons, List.map_nil]); first | done | rfl | (simp only [List.length_drop, List.length_take]; rfl)) ?_
      refine (HC2.out _ hHeld.2.2.2.out.hb).mono ?_; rintro e w6 ⟨rfl, hb⟩; have HP6 := qab.mk (HT.out w6 (BIN.below hHeld.2.2.2.out hb)); clear hb; refine ⟨_, rfl, ?_⟩; refine hK.out _ _ HP6.out (fun hHeld => ?_); clear hK K; refine norm_ (a' := ?_) ?_ ?_; rotate_left; (focus (show Act.put _ (some 23) _ = _; simp only [Act.put, qzA, qzB, qzC, i64_w, i32_w]; rfl))
      refine pure_ (i := 9) (N := some 24) (v := ?_) (a' := ?_) (msk 20 10) rfl rfl (by kernel_rfl) (fun _ _ _ h => h) (Or.inl ⟨by rfl, ?_⟩) ?_ ?_; rotate_left; (focus (intro w'; go_simp; with_reducible rfl)); rotate_left; (focus (simp only [Act.put, qzA, qzB, qzC, i64_w, i32_w]; rfl))
      refine pure_ (i := 10) (N := some 25) (v := ?_) (a' := ?_) (msk 20 11) rfl rfl (by kernel_rfl) (fun _ _ _ h => h) (Or.inl ⟨by rfl, ?_⟩) ?_ ?_; rotate_left; (focus (intro w'; go_simp; with_reducible rfl)); rotate_left; (focus (simp only [Act.put, qzA, qzB, qzC, i64_w, i32_w]; rfl))
      refine pure_ (i := 11) (N := some 26) (v := ?_) (a' := ?_) (msk 20 12) rfl rfl (by kernel_rfl) (fun _ _ _ h => h) (Or.inl ⟨by rfl, ?_⟩) ?_ ?_; rotate_left; (focus (intro w'; go_simp; with_reducible rfl)); rotate_left; (focus (simp only [Act.put, qzA, qzB, qzC, i64_w, i32_w]; rfl))
      refine take_ (i := 12) (N := some 27) (v := ?_) (a' := ?_) (msk 20 13) rfl rfl (by kernel_rfl) (fun _ _ _ h => h) (Or.inl ⟨by rfl, ?_⟩) hHeld ?_ ?_; rotate_left; (focus (rintro w' ⟨s0, s1, s2, s3⟩; go_simp; with_reducible rfl)); rotate_left; (focus (simp only [Act.put, qzA, qzB, qzC, i64_w, i32_w]; rfl))
      refine pure_ (i := 13) (N := some 28) (v := ?_) (a' := ?_) (msk 20 14) rfl rfl (by kernel_rfl) (fun _ _ _ h => h) (Or.inl ⟨by rfl, ?_⟩) ?_ ?_; rotate_left; (focus (intro w'; go_simp; with_reducible rfl)); rotate_left; (focus (simp only [Act.put, qzA, qzB, qzC, i64_w, i32_w]; rfl))
      refine pure_ (i := 15) (N := some 30) (v := ?_) (a' := ?_) #[true, true, true, true, true, true, true, true, true, true, true, true, true, true, false, true, false, false, false, false] rfl rfl (by kernel_rfl) (fun _ _ _ h => h) (Or.inl ⟨by rfl, ?_⟩) ?_ ?_; rotate_left; (focus (intro w'; go_simp; with_reducible rfl)); rotate_left; (focus (simp only [Act.put, qzA, qzB, qzC, i64_w, i32_w]; rfl))
      refine pure_ (i := 16) (N := some 31) (v := ?_) (a' := ?_) #[true, true, true, true, true, true, true, true, true, true, true, true, true, true, false, true, true, false, false, false] rfl rfl (by kernel_rfl) (fun _ _ _ h => h) (Or.inl ⟨by rfl, ?_⟩) ?_ ?_; rotate_left; (focus (intro w'; go_simp; with_reducible rfl)); rotate_left; (focus (simp only [Act.put, qzA, qzB, qzC, i64_w, i32_w]; rfl))
      refine one_ (i := 14) (N := some 29) (msk 20 17) rfl rfl (by kernel_rfl) (by decide) (fun K hK => ?_)
      refine goes_ Try.func42 (by kernel_rfl) rfl #[.agg #[.slice A0_0 l0_0.length c0_0, .slice A0_1 l0_1.length c0_1, .slice A0_2 l0_2.length c0_2], .int .i64 k] (by rfl) rfl rfl (by (try simp only [List.map_toArray, List.map_cons, List.map_nil]); first | done | rfl | (simp only [List.length_drop, List.length_take]; rfl)) ?_
      refine (HR1'.out _ hHeld.2.2.2.out.hb).mono ?_; rintro e w7 ⟨A, c, rfl, hAc, hAC, hb⟩; have HP7 := qab.mk (HT.out w7 (BIN.below hHeld.2.2.2.out hb)); have HAC := qab.mk hAC; clear hb hAC; refine ⟨_, rfl, ?_⟩; refine hK.out _ _ HP7.out (fun hHeld => ?_); clear hK K; refine norm_ (a' := ?_) ?_ ?_; rotate_left; (focus (show Act.put _ (some 29) _ = _; simp only [Act.put, qzA, qzB, qzC, i64_w, i32_w]; rfl))
      refine one_ (i := 17) (N := some 32) (msk 20 18) rfl rfl (by kernel_rfl) (by decide) (fun K hK => ?_)
      refine goes_ Try.func45 (by kernel_rfl) rfl #[.agg #[.slice A l0_0.length c, .slice A0_1 l0_1.length c0_1, .slice A0_2 l0_2.length c0_2], .int .i64 a1, .slice A2 l2.length c2] (by rfl) rfl rfl (by (try simp only [List.map_toArray, List.map_cons, List.map_nil]); first | done | rfl | (simp only [List.length_drop, List.length_take]; rfl)) ?_
      refine (HW1.out A c hAc _ hHeld.2.2.2.out.hb HAC.out).mono ?_; rintro e w8 ⟨rfl, hb⟩; have HP8 := qab.mk (HT.out w8 (BIN.below hHeld.2.2.2.out hb)); clear hb; refine ⟨_, rfl, ?_⟩; refine hK.out _ _ HP8.out (fun hHeld => ?_); clear hK K; refine norm_ (a' := ?_) ?_ ?_; rotate_left; (focus (show Act.put _ (some 32) _ = _; simp only [Act.put, qzA, qzB, qzC, i64_w, i32_w]; rfl))
      refine pure_ (i := 18) (N := some 33) (v := ?_) (a' := ?_) (msk 20 19) rfl rfl (by kernel_rfl) (fun _ _ _ h => h) (Or.inl ⟨by rfl, ?_⟩) ?_ ?_; rotate_left; (focus (intro w'; go_simp; with_reducible rfl)); rotate_left; (focus (simp only [Act.put, qzA, qzB, qzC, i64_w, i32_w]; rfl))
      refine pure_ (i := 19) (N := some 34) (v := ?_) (a' := ?_) (msk 20 20) rfl rfl (by kernel_rfl) (fun _ _ _ h => h) (Or.inl ⟨by rfl, ?_⟩) ?_ ?_; rotate_left; (focus (intro w'; go_simp; with_reducible rfl)); rotate_left; (focus (simp only [Act.put, qzA, qzB, qzC, i64_w, i32_w]; rfl))
      refine done_ (by kernel_rfl) ?_
      go_wp2_with fail
      go_roundw
      case rel => exact ⟨k + 1, by omega, by rw [HS.out], by go_num, HP8.out.2.2.2⟩
      case measure => simp [intOf]; omega
     ·
      have d2 : decide (x < 0) = false := decide_eq_false hx
      have HS : qab (wtoR l0_0 l0_1 l0_2 a1 l2 (k + 1) = b) := ⟨by rw [HST.out]; unfold stepW; rw [if_neg (fun h => hx (by rw [HX.out]; exact h.2))]⟩
      clear hy hz
      go_upto_region 5 with (first | (go_at_call 65; with_reducible refine (HSETS.out _ HI.out.hb).mono ?_; rintro e wO ⟨rfl, hb⟩; replace HI := qab.mk (HI.out.below hb); clear hb hq0 hq1 hq2; have hq0 : wO.cell? ⟨gb, 0, none⟩ = some (.slice A0_0 l0_0.length c0_0) := (qaa HI.out.b 0).trans rfl; have hq1 : wO.cell? ⟨gb, 1, none⟩ = some (.slice A0_1 l0_1.length c0_1) := (qaa HI.out.b 1).trans rfl; have hq2 : wO.cell? ⟨gb, 2, none⟩ = some (.slice A0_2 l0_2.length c0_2) := (qaa HI.out.b 2).trans rfl))
      refine start_ (n := 20) (S := (fun w' => (w'.cell? ⟨gb, 0, none⟩ = some (.slice A0_0 l0_0.length c0_0) ∧ w'.cell? ⟨gb, 1, none⟩ = some (.slice A0_1 l0_1.length c0_1) ∧ w'.cell? ⟨gb, 2, none⟩ = some (.slice A0_2 l0_2.length c0_2) ∧ qab (BIN w gb #[.slice A0_0 l0_0.length c0_0, .slice A0_1 l0_1.length c0_1, .slice A0_2 l0_2.length c0_2] w')))) (ds := []) (msk 20 0) (by kernel_rfl) rfl rfl (HT.out wO.drew (BIN.below HI.out (qbb (Below.refl _ _)))) (fun hHeld => ?_)
      refine pure_ (i := 0) (N := some 15) (v := ?_) (a' := ?_) (msk 20 1) rfl rfl (by kernel_rfl) (fun _ _ _ h => h) (Or.inl ⟨by rfl, ?_⟩) ?_ ?_; rotate_left; (focus (intro w'; go_simp; with_reducible rfl)); rotate_left; (focus (simp only [Act.put, qzA, qzB, qzC, i64_w, i32_w]; rfl))
      refine pure_ (i := 1) (N := some 16) (v := ?_) (a' := ?_) (msk 20 2) rfl rfl (by kernel_rfl) (fun _ _ _ h => h) (Or.inl ⟨by rfl, ?_⟩) ?_ ?_; rotate_left; (focus (intro w'; go_simp; with_reducible rfl)); rotate_left; (focus (simp only [Act.put, qzA, qzB, qzC, i64_w, i32_w]; rfl))
      refine pure_ (i := 2) (N := some 17) (v := ?_) (a' := ?_) (msk 20 3) rfl rfl (by kernel_rfl) (fun _ _ _ h => h) (Or.inl ⟨by rfl, ?_⟩) ?_ ?_; rotate_left; (focus (intro w'; go_simp; with_reducible rfl)); rotate_left; (focus (simp only [Act.put, qzA, qzB, qzC, i64_w, i32_w]; rfl))
      refine take_ (i := 3) (N := some 18) (v := ?_) (a' := ?_) (msk 20 4) rfl rfl (by kernel_rfl) (fun _ _ _ h => h) (Or.inl ⟨by rfl, ?_⟩) hHeld ?_ ?_; rotate_left; (focus (rintro w' ⟨s0, s1, s2, s3⟩; go_simp; with_reducible rfl)); rotate_left; (focus (simp only [Act.put, qzA, qzB, qzC, i64_w, i32_w]; rfl))
      refine pure_ (i := 4) (N := some 19) (v := ?_) (a' := ?_) (msk 20 5) rfl rfl (by kernel_rfl) (fun _ _ _ h => h) (Or.inl ⟨by rfl, ?_⟩) ?_ ?_; rotate_left; (focus (intro w'; go_simp; with_reducible rfl)); rotate_left; (focus (simp only [Act.put, qzA, qzB, qzC, i64_w, i32_w]; rfl))
      refine take_ (i := 6) (N := some 21) (v := ?_) (a' := ?_) #[true, true, true, true, true, false, true, false, false, false, false, false, false, false, false, false, false, false, false, false] rfl rfl (by kernel_rfl) (fun _ _ _ h => h) (Or.inl ⟨by rfl, ?_⟩) hHeld ?_ ?_; rotate_left; (focus (rintro w' ⟨s0, s1, s2, s3⟩; go_simp; with_reducible rfl)); rotate_left; (focus (simp only [Act.put, qzA, qzB, qzC, i64_w, i32_w]; rfl))
      refine pure_ (i := 7) (N := some 22) (v := ?_) (a' := ?_) #[true, true, true, true, true, false, true, true, false, false, false, false, false, false, false, false, false, false, false, false] rfl rfl (by kernel_rfl) (fun _ _ _ h => h) (Or.inl ⟨by rfl, ?_⟩) ?_ ?_; rotate_left; (focus (intro w'; go_simp; with_reducible rfl)); rotate_left; (focus (simp only [Act.put, qzA, qzB, qzC, i64_w, i32_w]; rfl))
      refine one_ (i := 5) (N := some 20) (msk 20 8) rfl rfl (by kernel_rfl) (by decide) (fun K hK => ?_)
      refine goes_ Try.func41 (by kernel_rfl) rfl #[.agg #[.slice A0_0 l0_0.length c0_0, .slice A0_1 l0_1.length c0_1, .slice A0_2 l0_2.length c0_2], .int .i64 k] (by rfl) rfl rfl (by (try simp only [List.map_toArray, List.map_cons, List.map_nil]); first | done | rfl | (simp only [List.length_drop, List.length_take]; rfl)) ?_
      refine (HC1.out _ hHeld.2.2.2.out.hb).mono ?_; rintro e w5 ⟨rfl, hb⟩; have HP5 := qab.mk (HT.out w5 (BIN.below hHeld.2.2.2.out hb)); clear hb; refine ⟨_, rfl, ?_⟩; refine hK.out _ _ HP5.out (fun hHeld => ?_); clear hK K; refine norm_ (a' := ?_) ?_ ?_; rotate_left; (focus (show Act.put _ (some 20) _ = _; simp only [Act.put, qzA, qzB, qzC, i64_w, i32_w]; rfl))
      refine one_ (i := 8) (N := some 23) (msk 20 9) rfl rfl (by kernel_rfl) (by decide) (fun K hK => ?_)
      refine goes_ Try.func41 (by kernel_rfl) rfl #[.agg #[.slice A0_0 l0_0.length c0_0, .slice A0_1 l0_1.length c0_1, .slice A0_2 l0_2.length c0_2], .int .i64 b] (by rfl) rfl rfl (by (try simp only [List.map_toArray, List.map_cons, List.map_nil]); first | done | rfl | (simp only [List.length_drop, List.length_take]; rfl)) ?_
      refine (HC2.out _ hHeld.2.2.2.out.hb).mono ?_; rintro e w6 ⟨rfl, hb⟩; have HP6 := qab.mk (HT.out w6 (BIN.below hHeld.2.2.2.out hb)); clear hb; refine ⟨_, rfl, ?_⟩; refine hK.out _ _ HP6.out (fun hHeld => ?_); clear hK K; refine norm_ (a' := ?_) ?_ ?_; rotate_left; (focus (show Act.put _ (some 23) _ = _; simp only [Act.put, qzA, qzB, qzC, i64_w, i32_w]; rfl))
      refine pure_ (i := 9) (N := some 24) (v := ?_) (a' := ?_) (msk 20 10) rfl rfl (by kernel_rfl) (fun _ _ _ h => h) (Or.inl ⟨by rfl, ?_⟩) ?_ ?_; rotate_left; (focus (intro w'; go_simp; with_reducible rfl)); rotate_left; (focus (simp only [Act.put, qzA, qzB, qzC, i64_w, i32_w]; rfl))
      refine pure_ (i := 10) (N := some 25) (v := ?_) (a' := ?_) (msk 20 11) rfl rfl (by kernel_rfl) (fun _ _ _ h => h) (Or.inl ⟨by rfl, ?_⟩) ?_ ?_; rotate_left; (focus (intro w'; go_simp; with_reducible rfl)); rotate_left; (focus (simp only [Act.put, qzA, qzB, qzC, i64_w, i32_w]; rfl))
      refine pure_ (i := 11) (N := some 26) (v := ?_) (a' := ?_) (msk 20 12) rfl rfl (by kernel_rfl) (fun _ _ _ h => h) (Or.inl ⟨by rfl, ?_⟩) ?_ ?_; rotate_left; (focus (intro w'; go_simp; with_reducible rfl)); rotate_left; (focus (simp only [Act.put, qzA, qzB, qzC, i64_w, i32_w]; rfl))
      refine take_ (i := 12) (N := some 27) (v := ?_) (a' := ?_) (msk 20 13) rfl rfl (by kernel_rfl) (fun _ _ _ h => h) (Or.inl ⟨by rfl, ?_⟩) hHeld ?_ ?_; rotate_left; (focus (rintro w' ⟨s0, s1, s2, s3⟩; go_simp; with_reducible rfl)); rotate_left; (focus (simp only [Act.put, qzA, qzB, qzC, i64_w, i32_w]; rfl))
      refine pure_ (i := 13) (N := some 28) (v := ?_) (a' := ?_) (msk 20 14) rfl rfl (by kernel_rfl) (fun _ _ _ h => h) (Or.inl ⟨by rfl, ?_⟩) ?_ ?_; rotate_left; (focus (intro w'; go_simp; with_reducible rfl)); rotate_left; (focus (simp only [Act.put, qzA, qzB, qzC, i64_w, i32_w]; rfl))
      refine pure_ (i := 15) (N := some 30) (v := ?_) (a' := ?_) #[true, true, true, true, true, true, true, true, true, true, true, true, true, true, false, true, false, false, false, false] rfl rfl (by kernel_rfl) (fun _ _ _ h => h) (Or.inl ⟨by rfl, ?_⟩) ?_ ?_; rotate_left; (focus (intro w'; go_simp; with_reducible rfl)); rotate_left; (focus (simp only [Act.put, qzA, qzB, qzC, i64_w, i32_w]; rfl))
      refine pure_ (i := 16) (N := some 31) (v := ?_) (a' := ?_) #[true, true, true, true, true, true, true, true, true, true, true, true, true, true, false, true, true, false, false, false] rfl rfl (by kernel_rfl) (fun _ _ _ h => h) (Or.inl ⟨by rfl, ?_⟩) ?_ ?_; rotate_left; (focus (intro w'; go_simp; with_reducible rfl)); rotate_left; (focus (simp only [Act.put, qzA, qzB, qzC, i64_w, i32_w]; rfl))
      refine one_ (i := 14) (N := some 29) (msk 20 17) rfl rfl (by kernel_rfl) (by decide) (fun K hK => ?_)
      refine goes_ Try.func42 (by kernel_rfl) rfl #[.agg #[.slice A0_0 l0_0.length c0_0, .slice A0_1 l0_1.length c0_1, .slice A0_2 l0_2.length c0_2], .int .i64 k] (by rfl) rfl rfl (by (try simp only [List.map_toArray, List.map_cons, List.map_nil]); first | done | rfl | (simp only [List.length_drop, List.length_take]; rfl)) ?_
      refine (HR1'.out _ hHeld.2.2.2.out.hb).mono ?_; rintro e w7 ⟨A, c, rfl, hAc, hAC, hb⟩; have HP7 := qab.mk (HT.out w7 (BIN.below hHeld.2.2.2.out hb)); have HAC := qab.mk hAC; clear hb hAC; refine ⟨_, rfl, ?_⟩; refine hK.out _ _ HP7.out (fun hHeld => ?_); clear hK K; refine norm_ (a' := ?_) ?_ ?_; rotate_left; (focus (show Act.put _ (some 29) _ = _; simp only [Act.put, qzA, qzB, qzC, i64_w, i32_w]; rfl))
      refine one_ (i := 17) (N := some 32) (msk 20 18) rfl rfl (by kernel_rfl) (by decide) (fun K hK => ?_)
      refine goes_ Try.func45 (by kernel_rfl) rfl #[.agg #[.slice A l0_0.length c, .slice A0_1 l0_1.length c0_1, .slice A0_2 l0_2.length c0_2], .int .i64 a1, .slice A2 l2.length c2] (by rfl) rfl rfl (by (try simp only [List.map_toArray, List.map_cons, List.map_nil]); first | done | rfl | (simp only [List.length_drop, List.length_take]; rfl)) ?_
      refine (HW1.out A c hAc _ hHeld.2.2.2.out.hb HAC.out).mono ?_; rintro e w8 ⟨rfl, hb⟩; have HP8 := qab.mk (HT.out w8 (BIN.below hHeld.2.2.2.out hb)); clear hb; refine ⟨_, rfl, ?_⟩; refine hK.out _ _ HP8.out (fun hHeld => ?_); clear hK K; refine norm_ (a' := ?_) ?_ ?_; rotate_left; (focus (show Act.put _ (some 32) _ = _; simp only [Act.put, qzA, qzB, qzC, i64_w, i32_w]; rfl))
      refine pure_ (i := 18) (N := some 33) (v := ?_) (a' := ?_) (msk 20 19) rfl rfl (by kernel_rfl) (fun _ _ _ h => h) (Or.inl ⟨by rfl, ?_⟩) ?_ ?_; rotate_left; (focus (intro w'; go_simp; with_reducible rfl)); rotate_left; (focus (simp only [Act.put, qzA, qzB, qzC, i64_w, i32_w]; rfl))
      refine pure_ (i := 19) (N := some 34) (v := ?_) (a' := ?_) (msk 20 20) rfl rfl (by kernel_rfl) (fun _ _ _ h => h) (Or.inl ⟨by rfl, ?_⟩) ?_ ?_; rotate_left; (focus (intro w'; go_simp; with_reducible rfl)); rotate_left; (focus (simp only [Act.put, qzA, qzB, qzC, i64_w, i32_w]; rfl))
      refine done_ (by kernel_rfl) ?_
      go_wp2_with fail
      go_roundw
      case rel => exact ⟨k + 1, by omega, by rw [HS.out], by go_num, HP8.out.2.2.2⟩
      case measure => simp [intOf]; omega
    ·
     have d3 : decide (y < z) = false := decide_eq_false hc
     have HS : qab (wtoR l0_0 l0_1 l0_2 a1 l2 (k + 1) = b) := ⟨by rw [HST.out]; unfold stepW; rw [if_neg (fun h => h.1.elim hn0 (fun h => hc (by rw [hy, hz]; exact h)))]⟩
     clear hy hz
     go_upto_region 5 with (first | (go_at_call 65; with_reducible refine (HSETS.out _ HI.out.hb).mono ?_; rintro e wO ⟨rfl, hb⟩; replace HI := qab.mk (HI.out.below hb); clear hb hq0 hq1 hq2; have hq0 : wO.cell? ⟨gb, 0, none⟩ = some (.slice A0_0 l0_0.length c0_0) := (qaa HI.out.b 0).trans rfl; have hq1 : wO.cell? ⟨gb, 1, none⟩ = some (.slice A0_1 l0_1.length c0_1) := (qaa HI.out.b 1).trans rfl; have hq2 : wO.cell? ⟨gb, 2, none⟩ = some (.slice A0_2 l0_2.length c0_2) := (qaa HI.out.b 2).trans rfl))
     refine start_ (n := 20) (S := (fun w' => (w'.cell? ⟨gb, 0, none⟩ = some (.slice A0_0 l0_0.length c0_0) ∧ w'.cell? ⟨gb, 1, none⟩ = some (.slice A0_1 l0_1.length c0_1) ∧ w'.cell? ⟨gb, 2, none⟩ = some (.slice A0_2 l0_2.length c0_2) ∧ qab (BIN w gb #[.slice A0_0 l0_0.length c0_0, .slice A0_1 l0_1.length c0_1, .slice A0_2 l0_2.length c0_2] w')))) (ds := []) (msk 20 0) (by kernel_rfl) rfl rfl (HT.out wO.drew (BIN.below HI.out (qbb (Below.refl _ _)))) (fun hHeld => ?_)
     refine pure_ (i := 0) (N := some 15) (v := ?_) (a' := ?_) (msk 20 1) rfl rfl (by kernel_rfl) (fun _ _ _ h => h) (Or.inl ⟨by rfl, ?_⟩) ?_ ?_; rotate_left; (focus (intro w'; go_simp; with_reducible rfl)); rotate_left; (focus (simp only [Act.put, qzA, qzB, qzC, i64_w, i32_w]; rfl))
     refine pure_ (i := 1) (N := some 16) (v := ?_) (a' := ?_) (msk 20 2) rfl rfl (by kernel_rfl) (fun _ _ _ h => h) (Or.inl ⟨by rfl, ?_⟩) ?_ ?_; rotate_left; (focus (intro w'; go_simp; with_reducible rfl)); rotate_left; (focus (simp only [Act.put, qzA, qzB, qzC, i64_w, i32_w]; rfl))
     refine pure_ (i := 2) (N := some 17) (v := ?_) (a' := ?_) (msk 20 3) rfl rfl (by kernel_rfl) (fun _ _ _ h => h) (Or.inl ⟨by rfl, ?_⟩) ?_ ?_; rotate_left; (focus (intro w'; go_simp; with_reducible rfl)); rotate_left; (focus (simp only [Act.put, qzA, qzB, qzC, i64_w, i32_w]; rfl))
     refine take_ (i := 3) (N := some 18) (v := ?_) (a' := ?_) (msk 20 4) rfl rfl (by kernel_rfl) (fun _ _ _ h => h) (Or.inl ⟨by rfl, ?_⟩) hHeld ?_ ?_; rotate_left; (focus (rintro w' ⟨s0, s1, s2, s3⟩; go_simp; with_reducible rfl)); rotate_left; (focus (simp only [Act.put, qzA, qzB, qzC, i64_w, i32_w]; rfl))
     refine pure_ (i := 4) (N := some 19) (v := ?_) (a' := ?_) (msk 20 5) rfl rfl (by kernel_rfl) (fun _ _ _ h => h) (Or.inl ⟨by rfl, ?_⟩) ?_ ?_; rotate_left; (focus (intro w'; go_simp; with_reducible rfl)); rotate_left; (focus (simp only [Act.put, qzA, qzB, qzC, i64_w, i32_w]; rfl))
     refine take_ (i := 6) (N := some 21) (v := ?_) (a' := ?_) #[true, true, true, true, true, false, true, false, false, false, false, false, false, false, false, false, false, false, false, false] rfl rfl (by kernel_rfl) (fun _ _ _ h => h) (Or.inl ⟨by rfl, ?_⟩) hHeld ?_ ?_; rotate_left; (focus (rintro w' ⟨s0, s1, s2, s3⟩; go_simp; with_reducible rfl)); rotate_left; (focus (simp only [Act.put, qzA, qzB, qzC, i64_w, i32_w]; rfl))
     refine pure_ (i := 7) (N := some 22) (v := ?_) (a' := ?_) #[true, true, true, true, true, false, true, true, false, false, false, false, false, false, false, false, false, false, false, false] rfl rfl (by kernel_rfl) (fun _ _ _ h => h) (Or.inl ⟨by rfl, ?_⟩) ?_ ?_; rotate_left; (focus (intro w'; go_simp; with_reducible rfl)); rotate_left; (focus (simp only [Act.put, qzA, qzB, qzC, i64_w, i32_w]; rfl))
     refine one_ (i := 5) (N := some 20) (msk 20 8) rfl rfl (by kernel_rfl) (by decide) (fun K hK => ?_)
     refine goes_ Try.func41 (by kernel_rfl) rfl #[.agg #[.slice A0_0 l0_0.length c0_0, .slice A0_1 l0_1.length c0_1, .slice A0_2 l0_2.length c0_2], .int .i64 k] (by rfl) rfl rfl (by (try simp only [List.map_toArray, List.map_cons, List.map_nil]); first | done | rfl | (simp only [List.length_drop, List.length_take]; rfl)) ?_
     refine (HC1.out _ hHeld.2.2.2.out.hb).mono ?_; rintro e w5 ⟨rfl, hb⟩; have HP5 := qab.mk (HT.out w5 (BIN.below hHeld.2.2.2.out hb)); clear hb; refine ⟨_, rfl, ?_⟩; refine hK.out _ _ HP5.out (fun hHeld => ?_); clear hK K; refine norm_ (a' := ?_) ?_ ?_; rotate_left; (focus (show Act.put _ (some 20) _ = _; simp only [Act.put, qzA, qzB, qzC, i64_w, i32_w]; rfl))
     refine one_ (i := 8) (N := some 23) (msk 20 9) rfl rfl (by kernel_rfl) (by decide) (fun K hK => ?_)
     refine goes_ Try.func41 (by kernel_rfl) rfl #[.agg #[.slice A0_0 l0_0.length c0_0, .slice A0_1 l0_1.length c0_1, .slice A0_2 l0_2.length c0_2], .int .i64 b] (by rfl) rfl rfl (by (try simp only [List.map_toArray, List.map_cons, List.map_nil]); first | done | rfl | (simp only [List.length_drop, List.length_take]; rfl)) ?_
     refine (HC2.out _ hHeld.2.2.2.out.hb).mono ?_; rintro e w6 ⟨rfl, hb⟩; have HP6 := qab.mk (HT.out w6 (BIN.below hHeld.2.2.2.out hb)); clear hb; refine ⟨_, rfl, ?_⟩; refine hK.out _ _ HP6.out (fun hHeld => ?_); clear hK K; refine norm_ (a' := ?_) ?_ ?_; rotate_left; (focus (show Act.put _ (some 23) _ = _; simp only [Act.put, qzA, qzB, qzC, i64_w, i32_w]; rfl))
     refine pure_ (i := 9) (N := some 24) (v := ?_) (a' := ?_) (msk 20 10) rfl rfl (by kernel_rfl) (fun _ _ _ h => h) (Or.inl ⟨by rfl, ?_⟩) ?_ ?_; rotate_left; (focus (intro w'; go_simp; with_reducible rfl)); rotate_left; (focus (simp only [Act.put, qzA, qzB, qzC, i64_w, i32_w]; rfl))
     refine pure_ (i := 10) (N := some 25) (v := ?_) (a' := ?_) (msk 20 11) rfl rfl (by kernel_rfl) (fun _ _ _ h => h) (Or.inl ⟨by rfl, ?_⟩) ?_ ?_; rotate_left; (focus (intro w'; go_simp; with_reducible rfl)); rotate_left; (focus (simp only [Act.put, qzA, qzB, qzC, i64_w, i32_w]; rfl))
     refine pure_ (i := 11) (N := some 26) (v := ?_) (a' := ?_) (msk 20 12) rfl rfl (by kernel_rfl) (fun _ _ _ h => h) (Or.inl ⟨by rfl, ?_⟩) ?_ ?_; rotate_left; (focus (intro w'; go_simp; with_reducible rfl)); rotate_left; (focus (simp only [Act.put, qzA, qzB, qzC, i64_w, i32_w]; rfl))
     refine pure_ (i := 12) (N := some 27) (v := undef) (a' := ?_) (msk 20 13) rfl rfl (by kernel_rfl) (fun _ _ _ h => h) (Or.inr ⟨by rfl, rfl⟩) ?_ ?_; rotate_left; (focus (simp only [Act.put, qzA, qzB, qzC, i64_w, i32_w]; rfl))
     refine pure_ (i := 13) (N := some 28) (v := undef) (a' := ?_) (msk 20 14) rfl rfl (by kernel_rfl) (fun _ _ _ h => h) (Or.inr ⟨by rfl, rfl⟩) ?_ ?_; rotate_left; (focus (simp only [Act.put, qzA, qzB, qzC, i64_w, i32_w]; rfl))
     refine pure_ (i := 14) (N := some 29) (v := undef) (a' := ?_) (msk 20 15) rfl rfl (by kernel_rfl) (fun _ _ _ h => h) (Or.inr ⟨by rfl, rfl⟩) ?_ ?_; rotate_left; (focus (simp only [Act.put, qzA, qzB, qzC, i64_w, i32_w]; rfl))
     refine pure_ (i := 15) (N := some 30) (v := undef) (a' := ?_) (msk 20 16) rfl rfl (by kernel_rfl) (fun _ _ _ h => h) (Or.inr ⟨by rfl, rfl⟩) ?_ ?_; rotate_left; (focus (simp only [Act.put, qzA, qzB, qzC, i64_w, i32_w]; rfl))
     refine pure_ (i := 16) (N := some 31) (v := undef) (a' := ?_) (msk 20 17) rfl rfl (by kernel_rfl) (fun _ _ _ h => h) (Or.inr ⟨by rfl, rfl⟩) ?_ ?_; rotate_left; (focus (simp only [Act.put, qzA, qzB, qzC, i64_w, i32_w]; rfl))
     refine pure_ (i := 17) (N := some 32) (v := undef) (a' := ?_) (msk 20 18) rfl rfl (by kernel_rfl) (fun _ _ _ h => h) (Or.inr ⟨by rfl, rfl⟩) ?_ ?_; rotate_left; (focus (simp only [Act.put, qzA, qzB, qzC, i64_w, i32_w]; rfl))
     refine pure_ (i := 18) (N := some 33) (v := undef) (a' := ?_) (msk 20 19) rfl rfl (by kernel_rfl) (fun _ _ _ h => h) (Or.inr ⟨by rfl, rfl⟩) ?_ ?_; rotate_left; (focus (simp only [Act.put, qzA, qzB, qzC, i64_w, i32_w]; rfl))
     refine pure_ (i := 19) (N := some 34) (v := ?_) (a' := ?_) (msk 20 20) rfl rfl (by kernel_rfl) (fun _ _ _ h => h) (Or.inl ⟨by rfl, ?_⟩) ?_ ?_; rotate_left; (focus (intro w'; go_simp; with_reducible rfl)); rotate_left; (focus (simp only [Act.put, qzA, qzB, qzC, i64_w, i32_w]; rfl))
     refine done_ (by kernel_rfl) ?_
     go_wp2_with fail
     go_roundw
     case rel => exact ⟨k + 1, by omega, by rw [HS.out], by go_num, HP6.out.2.2.2⟩
     case measure => simp [intOf]; omega
  ·
   obtain rfl : k = N := by omega
   have HBE := qab.mk hb
   clear hb hbd HST
   go_wp2_with (first | (go_at_call 65; with_reducible refine (HSETS.out _ HI.out.hb).mono ?_; rintro e w4 ⟨rfl, hb⟩; replace HI := qab.mk (HI.out.below hb); clear hb hq0 hq1 hq2; have hq0 : w4.cell? ⟨gb, 0, none⟩ = some (.slice A0_0 l0_0.length c0_0) := (qaa HI.out.b 0).trans rfl; have hq1 : w4.cell? ⟨gb, 1, none⟩ = some (.slice A0_1 l0_1.length c0_1) := (qaa HI.out.b 1).trans rfl; have hq2 : w4.cell? ⟨gb, 2, none⟩ = some (.slice A0_2 l0_2.length c0_2) := (qaa HI.out.b 2).trans rfl))
   go_ret
   exact ⟨by rw [HBE.out]; rfl, HI.out.hb⟩
section
variable {l0 : List S39} {l1 : List S37} {l2 : List (List Int)} {a : Int} {fs : List Int}
theorem costN_bd (h : FaultsOk l0 l1 l2 a fs) (x : Int) (x0 : 0 ≤ x) (x1 : x < ((2 ^ l0.length : Nat) : Int)) : 0 ≤ costN l0 x ∧ costN l0 x ≤ 5000000 := by
 have hN := net_ok h.v
 have hl := cnt_le x
 unfold cntB at hl
 have := cost_bd l0 hN.loops (qar x 5) 0 (fun i hi => loops_in hN.n1 x0 x1 i hi) (Int.le_refl _) (by omega)
 unfold costN costV
 omega
theorem ofWrap_eq (h : FaultsOk l0 l1 l2 a fs) (x : Int) (x0 : 0 ≤ x) (x1 : x < ((2 ^ l0.length : Nat) : Int)) : ofWrap l0 l1 l2 a fs x = (-(costN l0 x), decide (weakN l0 l1 l2 a fs x < 0)) := by
 have hb := costN_bd h x x0 x1
 unfold ofWrap
 rw [weak_wrapped h x x0]
 unfold costN at hb ⊢
 rw [wrap_id (by omega) (by omega)]
 rfl
theorem wrap_best (h : FaultsOk l0 l1 l2 a fs) :
  ((∀ s : Int, 0 ≤ s → s < ((2 ^ l0.length : Nat) : Int) → ¬ weakN l0 l1 l2 a fs s < 0) ∧ wrapV l0 l1 l2 a fs = (0, 0, 5)) ∨
  (∃ w : Int, 0 ≤ w ∧ w < ((2 ^ l0.length : Nat) : Int) ∧ weakN l0 l1 l2 a fs w < 0 ∧ wrapV l0 l1 l2 a fs = (w, costN l0 w, 0) ∧
   ∀ s : Int, 0 ≤ s → s < ((2 ^ l0.length : Nat) : Int) → weakN l0 l1 l2 a fs s < 0 → costN l0 w ≤ costN l0 s ∧ (costN l0 w = costN l0 s → w ≤ s)) := by
 have hg0 : givenV l0 l1 l2 a fs = 0 := by rw [given_same, of_ok h]
 have hmem : ∀ p : Int, p ∈ numsOf (2 ^ l0.length) ↔ 0 ≤ p ∧ p < ((2 ^ l0.length : Nat) : Int) := fun p => by
  unfold numsOf
  simp only [List.mem_map, List.mem_range]
  constructor
  ·
   rintro ⟨k, hk, rfl⟩
   omega
  ·
   rintro ⟨h0, h1⟩
   exact ⟨p.toNat, by omega, by omega⟩
 have hsorted : (numsOf (2 ^ l0.length)).Pairwise (· < ·) := by
  unfold numsOf
  rw [List.pairwise_map]
  exact List.Pairwise.imp (fun h => by omega) List.pairwise_lt_range
 have hg := g1_ok (ofWrap l0 l1 l2 a fs) _ hsorted
 unfold wrapV
 rw [if_neg (by rw [hg0]; simp)]
 generalize hG : g1 (ofWrap l0 l1 l2 a fs) (numsOf (2 ^ l0.length)) = G at hg ⊢
 obtain ⟨g0, g1_, g2⟩ := G
 cases g2 with
 | false =>
  left
  refine ⟨fun s s0 s1 hw => ?_, by rw [if_neg (by simp)]⟩
  have h1 := hg.no rfl s ((hmem s).2 ⟨s0, s1⟩)
  rw [ofWrap_eq h s s0 s1] at h1
  simp only [decide_eq_false_iff_not] at h1
  exact h1 hw
 | true =>
  right
  obtain ⟨m1, m2⟩ := hg.mem rfl
  obtain ⟨p0, p1⟩ := (hmem _).1 m1
  have e := ofWrap_eq h _ p0 p1
  rw [m2] at e
  injection e with e1 e2
  have hb := costN_bd h _ p0 p1
  dsimp only at p0 p1 e1 e2 hb
  refine ⟨g0, p0, p1, of_decide_eq_true e2.symm, ?_, fun s s0 s1 hw => ?_⟩
  ·
   rw [if_pos rfl]
   have : wrap64 (-g1_) = costN l0 g0 := by rw [e1, wrap_id (by omega) (by omega)]; omega
   exact congrArg (fun c => (g0, c, (0 : Int))) this
  ·
   have e3 := ofWrap_eq h s s0 s1
   rw [decide_eq_true hw] at e3
   have hq := (hmem s).2 ⟨s0, s1⟩
   have h1 := hg.max rfl s hq (by rw [e3])
   have h2 := hg.first rfl s hq
   rw [e3] at h1 h2
   dsimp only at h1 h2
   exact ⟨by omega, fun he => h2 (by rw [e1, he])⟩
def WrapI (l0 : List S39) (l1 : List S37) (l2 : List (List Int)) (a : Int) (fs : List Int) (k b : Int) : Prop :=
 (b < 0 ∧ ∀ s : Int, 0 ≤ s → s < k → ¬ weakN l0 l1 l2 a fs s < 0) ∨ (0 ≤ b ∧ b < k ∧ weakN l0 l1 l2 a fs b < 0 ∧ ∀ s : Int, 0 ≤ s → s < k → weakN l0 l1 l2 a fs s < 0 → costN l0 b ≤ costN l0 s ∧ (costN l0 b = costN l0 s → b ≤ s))
theorem wtoR_ok (l0 : List S39) (l1 : List S37) (l2 : List (List Int)) (a : Int) (fs : List Int) : ∀ k : Nat, WrapI l0 l1 l2 a fs k (wtoR l0 l1 l2 a fs k)
 | 0 => .inl ⟨by show (-1 : Int) < 0; omega, fun s h0 h1 => by omega⟩
 | k + 1 => by
  have ih := wtoR_ok l0 l1 l2 a fs k
  unfold wtoR stepW
  generalize wtoR l0 l1 l2 a fs k = b at ih
  have hk : ∀ s : Int, s < ((k + 1 : Nat) : Int) → s < k ∨ s = k := fun s hs => by omega
  split
  ·
   rename_i hc
   right
   refine ⟨by omega, by omega, hc.2, fun s s0 s1 hw => ?_⟩
   rcases hk s s1 with hs | rfl
   ·
    rcases ih with ⟨_, h2⟩ | ⟨h1, h2, h3, h4⟩
    ·
     exact absurd hw (h2 s s0 hs)
    ·
     have h5 := (h4 s s0 hs hw).1
     rcases hc.1 with hc1 | hc1 <;> exact ⟨by omega, fun he => by omega⟩
   ·
    exact ⟨Int.le_refl _, fun _ => Int.le_refl _⟩
  ·
   rename_i hc
   rcases ih with ⟨h1, h2⟩ | ⟨h1, h2, h3, h4⟩
   ·
    left
    refine ⟨h1, fun s s0 s1 hw => ?_⟩
    rcases hk s s1 with hs | rfl
    ·
     exact h2 s s0 hs hw
    ·
     exact hc ⟨.inl h1, hw⟩
   ·
    right
    refine ⟨h1, by omega, h3, fun s s0 s1 hw => ?_⟩
    rcases hk s s1 with hs | rfl
    ·
     exact h4 s s0 hs hw
    ·
     have : ¬ costN l0 k < costN l0 b := fun hlt => hc ⟨.inr hlt, hw⟩
     exact ⟨by omega, fun _ => by omega⟩
theorem wraps_eq (h : FaultsOk l0 l1 l2 a fs) : (wtoR l0 l1 l2 a fs (2 ^ l0.length) < 0 ∧ wrapV l0 l1 l2 a fs = (0, 0, 5)) ∨
  (0 ≤ wtoR l0 l1 l2 a fs (2 ^ l0.length) ∧ wtoR l0 l1 l2 a fs (2 ^ l0.length) < ((2 ^ l0.length : Nat) : Int) ∧ wrapV l0 l1 l2 a fs = (wtoR l0 l1 l2 a fs (2 ^ l0.length), costN l0 (wtoR l0 l1 l2 a fs (2 ^ l0.length)), 0)) := by
 have hr := wtoR_ok l0 l1 l2 a fs (2 ^ l0.length)
 generalize wtoR l0 l1 l2 a fs (2 ^ l0.length) = b at hr ⊢
 rcases wrap_best h with ⟨hno, hp⟩ | ⟨w, w0, w1, w2, hp, hb⟩
 ·
  rcases hr with ⟨h1, _⟩ | ⟨h1, h2, h3, _⟩
  ·
   exact .inl ⟨h1, hp⟩
  ·
   exact absurd h3 (hno b h1 h2)
 ·
  rcases hr with ⟨_, h2⟩ | ⟨h1, h2, h3, h4⟩
  ·
   exact absurd w2 (h2 w w0 w1)
  ·
   have a1 := hb b h1 h2 h3
   have a2 := h4 w w0 w1 w2
   have hc : costN l0 w = costN l0 b := by omega
   have e1 := a1.2 hc
   have e2 := a2.2 hc.symm
   obtain rfl : w = b := by omega
   exact .inr ⟨h1, h2, hp⟩
end
end Go.Proofs.Ytipphcjgdebecaa.PA
