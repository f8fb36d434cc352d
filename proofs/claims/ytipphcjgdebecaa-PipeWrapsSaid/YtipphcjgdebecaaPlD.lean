/- What functions of the program answer. No condition. -/
import Derived.RangeFuncNested
import Derived.RangeFuncBound
import Derived.RangeFuncCalls
import Derived.RangeFuncLeaves
import Derived.RangeFuncBox
import Derived.Shelf.Abstract
import Derived.Shelf.RegionOpen
import Derived.OwnWalkIn
import Derived.TacticsInMore
import Derived.LoopNIn
import Derived.LoopIn
import Derived.Recover
import Derived.Defers
import Derived.WalkLawsBesides
import Derived.WalkSmall
import Derived.Test.YtipphcjgdebecaaPlC
import Derived.Test.YtipphcjgdebecaaSC
import Derived.Test.YtipphcjgdebecaaSF
import Derived.Test.YtipphcjgdebecaaSJ
import Derived.Test.YtipphcjgdebecaaSK
import Derived.Test.YtipphcjgdebecaaSL
import Derived.Test.YtipphcjgdebecaaPlA
set_option linter.all false
set_option maxRecDepth 100000
set_option maxHeartbeats 8000000
namespace Go.Proofs.Ytipphcjgdebecaa.PA
open Go.RowKit Go.Shelf Go.Proofs.YtipphcjgdebecaaW.PrintWords Go.Proofs.YtipphcjgdebecaaW.PrintLast Go.Proofs.YtipphcjgdebecaaW.PrintMore
attribute [local go_sem] qaw qay max_two min_two qas qat qax qaz
def weakP (O : Int → Way) : Int → Int → List Int → Int × Int
 | _, s, [] => (-1, s)
 | j, s, f :: t => if (O f).2.2 = true then weakP O (j + 1) (mn s (O f).2.1) t else (j, 0)
theorem rd_at (l : List Int) (i : Nat) (h : i < l.length) : rd l (i : Int) = l[i] := by simp [rd, h]
theorem weak_go {l0 : List S39} {l1 : List S37} {l2 : List (List Int)} {wp a : Int} {O : Int → Way} (fs : List Int) (hf : fs.length ≤ 1000) (hO : ∀ f ∈ fs, pipe_net_order.f l0 l1 l2 wp a f = some (O f)) :
  ∀ (m j k : Nat) (s : Int), j + m = fs.length → m + 1 ≤ k → pipe_net_weak.l0 k a s fs (fs.length : Int) (j : Int) l0 l1 l2 wp = some (weakP O j s (fs.drop j)) := by
 intro m
 induction m with
 | zero =>
  intro j k s hj hk
  obtain ⟨k, rfl⟩ : ∃ k', k = k' + 1 := ⟨k - 1, by omega⟩
  unfold pipe_net_weak.l0
  rw [if_neg (by omega), List.drop_eq_nil_of_le (by omega)]
  rfl
 | succ m ih =>
  intro j k s hj hk
  obtain ⟨k, rfl⟩ : ∃ k', k = k' + 1 := ⟨k - 1, by omega⟩
  have hlt : j < fs.length := by omega
  unfold pipe_net_weak.l0
  rw [if_pos (by omega), if_pos (by omega), if_pos (by omega), rd_at fs j hlt, hO _ (List.getElem_mem hlt), List.drop_eq_getElem_cons hlt]
  simp only [Option.bind_some, weakP]
  split
  ·
   rw [wsucc j (by omega), ih (j + 1) k _ (by omega) (by omega)]
   rfl
  ·
   rfl
theorem weak_eq {l0 : List S39} {l1 : List S37} {l2 : List (List Int)} {wp a : Int} {O : Int → Way} (fs : List Int) (k : Nat) (hk : fs.length + 1 ≤ k) (hf : fs.length ≤ 1000) (hO : ∀ f ∈ fs, pipe_net_order.f l0 l1 l2 wp a f = some (O f)) :
  pipe_net_weak.f k l0 l1 l2 wp a fs = some (weakP O 0 l1.length fs) := by
 have h := weak_go fs hf hO fs.length 0 k (l1.length : Int) (by omega) (by omega)
 unfold pipe_net_weak.f
 simpa using h
theorem faulted_eq (l0 : List S39) (l1 : List S37) (l2 : List (List Int)) (hs : Short l0 l1 l2) (a : Int) (fs : List Int) (k : Nat) (hk : 300 ≤ k) : taliklaw04_faulted.f k l0 l1 l2 a fs = some (faultedV l0 l1 l2 a fs) := by
 unfold taliklaw04_faulted.f
 rw [if_pos (of_short hs)]
theorem given_same (l0 : List S39) (l1 : List S37) (l2 : List (List Int)) (a : Int) (fs : List Int) : givenV l0 l1 l2 a fs = faultedV l0 l1 l2 a fs := by
 unfold givenV faultedV
 by_cases hl : (fs.length : Int) > 12
 ·
  rw [if_pos (by omega), if_pos hl]
 ·
  rw [if_neg (by omega), if_neg hl]
  cases hv : validB l0 l1 l2 with
  | false => simp
  | true =>
   have hn := (net_ok hv).n1
   have e : (fs.any fun f => !faultB l0 f) = !(fs.all (inFault l0)) := by
    rw [List.not_all_eq_any_not]
    congr 1
    funext f
    rw [fault_same l0 hn f]
   rw [e]
   cases inB a 0 l0.length <;> cases fs.all (inFault l0) <;> rfl
structure FaultsOk (l0 : List S39) (l1 : List S37) (l2 : List (List Int)) (a : Int) (fs : List Int) : Prop where
 len : fs.length ≤ 12
 v : validB l0 l1 l2 = true
 a0 : 0 ≤ a
 a1 : a ≤ l0.length
 all : ∀ f ∈ fs, inFault l0 f = true
theorem faults_ok {l0 : List S39} {l1 : List S37} {l2 : List (List Int)} {a : Int} {fs : List Int} (h : faultedV l0 l1 l2 a fs = 0) : FaultsOk l0 l1 l2 a fs := by
 unfold faultedV at h
 split at h
 ·
  cases h
 ·
  rename_i hl
  split at h
  ·
   rename_i hc
   simp only [Bool.and_eq_true, List.all_eq_true] at hc
   obtain ⟨hv, hp, hf⟩ := hc
   unfold inB at hp
   simp only [Bool.and_eq_true, decide_eq_true_eq] at hp
   exact ⟨by omega, hv, hp.1, hp.2, hf⟩
  ·
   cases h
theorem of_ok {l0 : List S39} {l1 : List S37} {l2 : List (List Int)} {a : Int} {fs : List Int} (h : FaultsOk l0 l1 l2 a fs) : faultedV l0 l1 l2 a fs = 0 := by
 unfold faultedV
 have hl := h.len
 have ha0 := h.a0
 have ha1 := h.a1
 rw [if_neg (by omega), if_pos]
 simp only [Bool.and_eq_true, List.all_eq_true]
 exact ⟨h.v, by unfold inB; simp; omega, h.all⟩
theorem fault_rng {l0 : List S39} {f : Int} (h : inFault l0 f = true) : 0 ≤ f ∧ f < ((2 ^ l0.length : Nat) : Int) := by
 unfold inFault inB at h
 simp only [Bool.and_eq_true, decide_eq_true_eq] at h
 exact ⟨h.1, by omega⟩
end Go.Proofs.Ytipphcjgdebecaa.PA
namespace Go.Proofs.Ytipphcjgdebecaa.PA
open Go.RowKit Go.Proofs.YtipphcjgdebecaaW.PrintWords Go.Proofs.YtipphcjgdebecaaW.PrintLast Go.Proofs.YtipphcjgdebecaaW.PrintMore
attribute [local go_sem] qaw qay max_two min_two qas qat qax qaz
def endL (L : S39) (l1 : List S37) (n : Nat) (most : Bool) : List S44 := (List.range n).map fun h : Nat => ⟨if most = true then L.f1.f1 else L.f1.f0, if most = true then (rd_T37 l1 h).f1 else (rd_T37 l1 h).f0, false⟩
theorem endL_succ (L : S39) (l1 : List S37) (n : Nat) (most : Bool) : endL L l1 (n + 1) most = endL L l1 n most ++ [⟨if most = true then L.f1.f1 else L.f1.f0, if most = true then (rd_T37 l1 n).f1 else (rd_T37 l1 n).f0, false⟩] := by simp [endL, List.range_succ]
theorem endL_length (L : S39) (l1 : List S37) (n : Nat) (most : Bool) : (endL L l1 n most).length = n := by simp [endL]
def talikref04_End.f (l0_0 : List (S39)) (l0_1 : List (S37)) (l0_2 : List (List Int)) (a1 : Int) (a2 : Int) (a3 : Bool) : Option ((List (S44))) := if 0 ≤ a1 ∧ a1 < l0_0.length ∧ 0 ≤ a2 ∧ a2 ≤ l0_1.length ∧ l0_1.length ≤ 1000 then some (endL (qal l0_0 a1) l0_1 a2.toNat a3) else none
theorem talikref04_End.calls (A0_0 : Option Addr) (c0_0 : Nat) (l0_0 : List (S39)) (A0_1 : Option Addr) (c0_1 : Nat) (l0_1 : List (S37)) (A0_2 : Option Addr) (c0_2 : Nat) (l0_2 : List (List Int)) (a1 : Int) (a2 : Int) (a3 : Bool) (r : List (S44)) (w : World) (hr0_0 : Kd.C k39 w A0_0 l0_0.length l0_0) (hc0_0 : l0_0.length ≤ c0_0) (hr0_1 : Kd.C k37 w A0_1 l0_1.length l0_1) (hc0_1 : l0_1.length ≤ c0_1) (hr0_2 : Kd.C (Kd.slice 3 (Kd.int .i64)) w A0_2 l0_2.length l0_2) (hc0_2 : l0_2.length ≤ c0_2) (h : talikref04_End.f l0_0 l0_1 l0_2 a1 a2 a3 = some r) :
  Calls Try.prog 48 #[.agg #[.slice A0_0 l0_0.length c0_0, .slice A0_1 l0_1.length c0_1, .slice A0_2 l0_2.length c0_2], .int .i64 a1, .int .i64 a2, .bool a3] w fun e w' => ∃ v0_ : Value, e = .returned (v0_) ∧ Kd.R k44 44 w' w.heap.size (fun _ => True) v0_ r ∧ Below w.heap.size w w' := by
 unfold talikref04_End.f at h
 split at h
 case isFalse => cases h
 rename_i hc
 have h' := Option.some.inj h
 clear h
 obtain ⟨q0, q1, q2, q3, q4⟩ := hc
 obtain ⟨n, rfl⟩ := Int.eq_ofNat_of_zero_le q0
 obtain ⟨N, rfl⟩ := Int.eq_ofNat_of_zero_le q2
 rw [Int.toNat_natCast] at h'
 subst h'
 have hu26 := Try.underlying26
 have hu39 := Try.underlying39
 have hu37 := Try.underlying37
 have hu44 := Try.underlying44
 have HB := qab.mk (Below.refl w.heap.size w)
 obtain ⟨ad, e, hl0, hl1, hl2, hl3, hl4, hl5, hl6, hl7, hl8, hl9, hl10, hl11⟩ := at_T39 hr0_0 n q0 q1
 cases e
 clear hl0 hl1 hl4 hl5 hl6 hl7 hl8 hl9 hl10 hl11
 simp only [Int.toNat_natCast] at hl2 hl3
 obtain ⟨L, hL⟩ : ∃ L, L = qal l0_0 (n : Int) := ⟨_, rfl⟩
 rw [← hL] at hl2 hl3 ⊢
 have HL := qab.mk (And.intro hl2 hl3)
 have HR1 := qab.mk hr0_1
 clear hl2 hl3 hL hr0_0 hr0_1 hr0_2
 go_enter Try.func48, Try.ntmps48
 go_wp2_with (first | (with_reducible refine qan (N := 4) rfl ?_); refine qam ?hg (N := 4) ?hd (cs := #[.slice (some ad) l0_0.length c0_0, .slice A0_1 l0_1.length c0_1, .slice A0_2 l0_2.length c0_2]) (t := 26) ?hr ?_; (case hd => rfl); (case hg => rfl); (case hr => first | (go_simp; done) | (go_simp; rfl)); intro gb hg_gb w2 hbox hb; have BKgb := qab.mk hbox; have n_HB := qab.mk (qad HB.out hb); have GEgb : w.heap.size ≤ gb := (by rw [hg_gb]; exact HB.out.size); clear HB; have HB := n_HB; clear n_HB; obtain ⟨hfgb, hcgb_0, hcgb_1, hcgb_2⟩ := qz3 BKgb.out; clear hbox hb hg_gb)
 clear hfgb hcgb_0 hcgb_1 hcgb_2
 have HO0 : qab (Kd.R k44 44 w2 w.heap.size (fun _ => True) (.slice none 0 0) []) := ⟨Kd.R_nil _ _ _ _ _⟩
 go_loopw [9, 10] (fun s9 s10 wr => ∃ (j : Nat) (vo : Value), j ≤ N ∧ s9 = vo ∧ s10 = .int .i64 j ∧ qab (Kd.R k44 44 wr w.heap.size (fun _ => True) vo (endL L l0_1 j a3)) ∧ qab (wr.heap[gb]? = some (.cells #[.slice (some ad) l0_0.length c0_0, .slice A0_1 l0_1.length c0_1, .slice A0_2 l0_2.length c0_2] 26 (0, 0))) ∧ qab (Below w.heap.size w wr)) (fun _ s _ => N - (intOf s).toNat)
 case atStart => exact ⟨0, _, by omega, rfl, rfl, HO0, BKgb, HB⟩
 case round =>
  clear HO0 BKgb HB
  obtain ⟨j, vo, hj, rfl, rfl, HO, BKgb, HBB⟩ := hrel
  by_cases hlt : j < N
  ·
   have hlt1 : (j : Int) < N := by omega
   have hj0 : (0 : Int) ≤ j := by omega
   have hjl : (j : Int) < l0_1.length := by omega
   have hn0 : (0 : Int) ≤ n := q0
   have hd : decide ((j : Int) < N) = true := decide_eq_true hlt1
   have hsc := endL_succ L l0_1 j a3
   have hxl := endL_length L l0_1 j a3
   generalize endL L l0_1 j a3 = xs at hsc hxl HO
   obtain ⟨wO, rfl⟩ : ∃ wo : World, wo = wr := ⟨_, rfl⟩
   obtain ⟨ad1, e, hf0, hf1⟩ := at_T37 (Kd.qaj HR1.out HBB.out) j hj0 hjl
   cases e
   simp only [Int.toNat_natCast] at hf0 hf1
   generalize rd_T37 l0_1 (j : Int) = F at hf0 hf1 hsc
   have htup : ∀ W, Below wO.heap.size wO W → (W.cell? ⟨gb, 0, none⟩ = some (.slice (some ad) l0_0.length c0_0) ∧ W.cell? ⟨gb, 1, none⟩ = some (.slice (some ad1) l0_1.length c0_1) ∧ W.cell? ⟨(ad.add (n * 12)).block, (ad.add (n * 12)).off + 2, none⟩ = some (.int .i64 L.f1.f0) ∧ W.cell? ⟨(ad.add (n * 12)).block, (ad.add (n * 12)).off + 3, none⟩ = some (.int .i64 L.f1.f1) ∧ W.cell? (ad1.add (j * 2)) = some (.int .i64 F.f0) ∧ W.cell? ⟨(ad1.add (j * 2)).block, (ad1.add (j * 2)).off + 1, none⟩ = some (.int .i64 F.f1) ∧ qab (Below wO.heap.size wO W)) := fun W h => ⟨qaa (qag BKgb.out h) 0, qaa (qag BKgb.out h) 1, ((qad HBB.out h).cell (World.block_lt_of_cell? w _ HL.out.1)).trans HL.out.1, ((qad HBB.out h).cell (World.block_lt_of_cell? w _ HL.out.2)).trans HL.out.2, (h.cell (World.block_lt_of_cell? wO _ hf0)).trans hf0, (h.cell (World.block_lt_of_cell? wO _ hf1)).trans hf1, ⟨h⟩⟩
   have HT := qab.mk htup
   clear htup hf0 hf1
   have hw1 : IntKind.i64.wrap ((j : Int) + 1) = (j : Int) + 1 := by rw [i64_w]; unfold wrap64; omega
   go_upto_region 5 with fail
   refine start_ (n := 16) (S := (fun w' => (w'.cell? ⟨gb, 0, none⟩ = some (.slice (some ad) l0_0.length c0_0) ∧ w'.cell? ⟨gb, 1, none⟩ = some (.slice (some ad1) l0_1.length c0_1) ∧ w'.cell? ⟨(ad.add (n * 12)).block, (ad.add (n * 12)).off + 2, none⟩ = some (.int .i64 L.f1.f0) ∧ w'.cell? ⟨(ad.add (n * 12)).block, (ad.add (n * 12)).off + 3, none⟩ = some (.int .i64 L.f1.f1) ∧ w'.cell? (ad1.add (j * 2)) = some (.int .i64 F.f0) ∧ w'.cell? ⟨(ad1.add (j * 2)).block, (ad1.add (j * 2)).off + 1, none⟩ = some (.int .i64 F.f1) ∧ qab (Below wO.heap.size wO w')))) (ds := [15]) (msk 16 0) (by kernel_rfl) rfl rfl (HT.out wO.drew (qbb (Below.refl _ _))) (fun hHeld => ?_)
   refine pure_ (i := 0) (N := some 17) (v := ?_) (a' := ?_) (msk 16 1) rfl rfl (by kernel_rfl) (fun _ _ _ h => h) (Or.inl ⟨by rfl, ?_⟩) ?_ ?_; rotate_left; (focus (intro w'; go_simp; with_reducible rfl)); rotate_left; (focus (simp only [Act.put, qzA, qzB, qzC, i64_w, i32_w]; rfl))
   refine take_ (i := 1) (N := some 18) (v := ?_) (a' := ?_) (msk 16 2) rfl rfl (by kernel_rfl) (fun _ _ _ h => h) (Or.inl ⟨by rfl, ?_⟩) hHeld ?_ ?_; rotate_left; (focus (rintro w' ⟨s0, s1, s2, s3, s4, s5, s6⟩; go_simp; with_reducible rfl)); rotate_left; (focus (simp only [Act.put, qzA, qzB, qzC, i64_w, i32_w]; rfl))
   refine pure_ (i := 2) (N := some 19) (v := ?_) (a' := ?_) (msk 16 3) rfl rfl (by kernel_rfl) (fun _ _ _ h => h) (Or.inl ⟨by rfl, ?_⟩) ?_ ?_; rotate_left; (focus (intro w'; go_simp; with_reducible rfl)); rotate_left; (focus (simp only [Act.put, qzA, qzB, qzC, i64_w, i32_w]; rfl))
   refine pure_ (i := 3) (N := some 20) (v := ?_) (a' := ?_) (msk 16 4) rfl rfl (by kernel_rfl) (fun _ _ _ h => h) (Or.inl ⟨by rfl, ?_⟩) ?_ ?_; rotate_left; (focus (intro w'; go_simp; with_reducible rfl)); rotate_left; (focus (simp only [Act.put, qzA, qzB, qzC, i64_w, i32_w]; rfl))
   refine pure_ (i := 4) (N := some 21) (v := ?_) (a' := ?_) (msk 16 5) rfl rfl (by kernel_rfl) (fun _ _ _ h => h) (Or.inl ⟨by rfl, ?_⟩) ?_ ?_; rotate_left; (focus (intro w'; go_simp; with_reducible rfl)); rotate_left; (focus (simp only [Act.put, qzA, qzB, qzC, i64_w, i32_w]; rfl))
   refine pure_ (i := 5) (N := some 22) (v := ?_) (a' := ?_) (msk 16 6) rfl rfl (by kernel_rfl) (fun _ _ _ h => h) (Or.inl ⟨by rfl, ?_⟩) ?_ ?_; rotate_left; (focus (intro w'; go_simp; with_reducible rfl)); rotate_left; (focus (simp only [Act.put, qzA, qzB, qzC, i64_w, i32_w]; rfl))
   refine take_ (i := 6) (N := some 23) (v := ?_) (a' := ?_) (msk 16 7) rfl rfl (by kernel_rfl) (fun _ _ _ h => h) (Or.inl ⟨by rfl, ?_⟩) hHeld ?_ ?_; rotate_left; (focus (rintro w' ⟨s0, s1, s2, s3, s4, s5, s6⟩; go_simp; with_reducible rfl)); rotate_left; (focus (simp only [Act.put, qzA, qzB, qzC, i64_w, i32_w]; rfl))
   refine pure_ (i := 7) (N := some 24) (v := ?_) (a' := ?_) (msk 16 8) rfl rfl (by kernel_rfl) (fun _ _ _ h => h) (Or.inl ⟨by rfl, ?_⟩) ?_ ?_; rotate_left; (focus (intro w'; go_simp; with_reducible rfl)); rotate_left; (focus (simp only [Act.put, qzA, qzB, qzC, i64_w, i32_w]; rfl))
   refine take_ (i := 8) (N := some 25) (v := ?_) (a' := ?_) (msk 16 9) rfl rfl (by kernel_rfl) (fun _ _ _ h => h) (Or.inl ⟨by rfl, ?_⟩) hHeld ?_ ?_; rotate_left; (focus (rintro w' ⟨s0, s1, s2, s3, s4, s5, s6⟩; go_simp; with_reducible rfl)); rotate_left; (focus (simp only [Act.put, qzA, qzB, qzC, i64_w, i32_w]; rfl))
   refine pure_ (i := 9) (N := some 26) (v := ?_) (a' := ?_) (msk 16 10) rfl rfl (by kernel_rfl) (fun _ _ _ h => h) (Or.inl ⟨by rfl, ?_⟩) ?_ ?_; rotate_left; (focus (intro w'; go_simp; with_reducible rfl)); rotate_left; (focus (simp only [Act.put, qzA, qzB, qzC, i64_w, i32_w]; rfl))
   refine pure_ (i := 10) (N := some 27) (v := ?_) (a' := ?_) (msk 16 11) rfl rfl (by kernel_rfl) (fun _ _ _ h => h) (Or.inl ⟨by rfl, ?_⟩) ?_ ?_; rotate_left; (focus (intro w'; go_simp; with_reducible rfl)); rotate_left; (focus (simp only [Act.put, qzA, qzB, qzC, i64_w, i32_w]; rfl))
   refine pure_ (i := 11) (N := some 28) (v := ?_) (a' := ?_) (msk 16 12) rfl rfl (by kernel_rfl) (fun _ _ _ h => h) (Or.inl ⟨by rfl, ?_⟩) ?_ ?_; rotate_left; (focus (intro w'; go_simp; with_reducible rfl)); rotate_left; (focus (simp only [Act.put, qzA, qzB, qzC, i64_w, i32_w]; rfl))
   refine take_ (i := 12) (N := some 29) (v := ?_) (a' := ?_) (msk 16 13) rfl rfl (by kernel_rfl) (fun _ _ _ h => h) (Or.inl ⟨by rfl, ?_⟩) hHeld ?_ ?_; rotate_left; (focus (rintro w' ⟨s0, s1, s2, s3, s4, s5, s6⟩; go_simp; with_reducible rfl)); rotate_left; (focus (simp only [Act.put, qzA, qzB, qzC, i64_w, i32_w]; rfl))
   refine pure_ (i := 13) (N := some 30) (v := ?_) (a' := ?_) (msk 16 14) rfl rfl (by kernel_rfl) (fun _ _ _ h => h) (Or.inl ⟨by rfl, ?_⟩) ?_ ?_; rotate_left; (focus (intro w'; go_simp; with_reducible rfl)); rotate_left; (focus (simp only [Act.put, qzA, qzB, qzC, i64_w, i32_w]; rfl))
   refine one_ (i := 14) (N := some 11) (msk 16 15) rfl rfl (by kernel_rfl) (by decide) (fun K hK => ?_); refine box_step ?hg (N := 11) ?hd (cs := #[.int .i64 0, .int .i64 0, .bool false]) (t := 44) ?hr ?_; (case hd => rfl); (case hg => rfl); (case hr => first | (go_simp; done) | (go_simp; rfl)); intro g hg_ w3 hbox hb
   have hge : wO.heap.size ≤ g := (by rw [hg_]; exact Nat.le_refl _); clear hg_; have HBK := qab.mk hbox; have HWB := qab.mk (qad (qbb (Below.refl wO.heap.size wO)) hb); clear hbox hb; have f3 := qac HBK.out; have b0 : w3.cell? ⟨g, 0, none⟩ = some (.int .i64 0) := qaa HBK.out 0; have b1 : w3.cell? ⟨g, 1, none⟩ = some (.int .i64 0) := qaa HBK.out 1; have b2 : w3.cell? ⟨g, 2, none⟩ = some (.bool false) := qaa HBK.out 2
   refine hK.out _ _ (HT.out w3 HWB.out) (fun hHeld => ?_); clear hK K; refine norm_ (a' := ?_) ?_ ?_; rotate_left; (focus (show Act.put _ (some 11) _ = _; simp only [Act.put, qzA, qzB, qzC, i64_w, i32_w]; rfl))
   refine last_ (i := 15) (N := none) (msk 16 16) rfl rfl (by kernel_rfl) (by decide) (fun K hK => ?_); refine skip_ (w1 := ?_) (by rfl) rfl ?_ ?_; rotate_left; (focus (go_simp; rfl)); refine hK.out _ _ ?_; clear hK K hHeld
   have hb4 := qai (j := 2) (v := .bool false) (qai (j := 1) (v := .int .i64 F.f0) (qai (j := 0) (v := .int .i64 L.f1.f0) HWB.out hge) hge) hge; have hbk4 := qba (qba (qba HBK.out 0 (.int .i64 L.f1.f0)) 1 (.int .i64 F.f0)) 2 (.bool false)
   generalize ((w3.setCell ⟨g, 0, none⟩ (.int .i64 L.f1.f0)).setCell ⟨g, 1, none⟩ (.int .i64 F.f0)).setCell ⟨g, 2, none⟩ (.bool false) = w4 at hb4 hbk4 ⊢
   have HW4 := qab.mk hb4; have HB4 := qab.mk hbk4; clear hb4 hbk4 HBK HWB f3 b0 b1 b2
   refine done_ (by kernel_rfl) ?_
   cases a3 with
   | true =>
    go_upto_region 7 with fail
    refine start_ (n := 15) (S := (fun w' => (w'.cell? ⟨gb, 0, none⟩ = some (.slice (some ad) l0_0.length c0_0) ∧ w'.cell? ⟨gb, 1, none⟩ = some (.slice (some ad1) l0_1.length c0_1) ∧ w'.cell? ⟨(ad.add (n * 12)).block, (ad.add (n * 12)).off + 2, none⟩ = some (.int .i64 L.f1.f0) ∧ w'.cell? ⟨(ad.add (n * 12)).block, (ad.add (n * 12)).off + 3, none⟩ = some (.int .i64 L.f1.f1) ∧ w'.cell? (ad1.add (j * 2)) = some (.int .i64 F.f0) ∧ w'.cell? ⟨(ad1.add (j * 2)).block, (ad1.add (j * 2)).off + 1, none⟩ = some (.int .i64 F.f1) ∧ qab (Below wO.heap.size wO w')))) (ds := [14]) (msk 15 0) (by kernel_rfl) rfl rfl (HT.out w4.drew (qbb HW4.out)) (fun hHeld => ?_)
    have hwd := qbb HW4.out; have hbd := qag HB4.out (qbb (Below.refl w4.heap.size w4)); generalize w4.drew = wd at hwd hbd hHeld ⊢; have HWD := qab.mk hwd; have HBD := qab.mk hbd; clear hwd hbd; obtain ⟨f4, e0, e1, e2⟩ := qz3 HBD.out
    refine pure_ (i := 0) (N := some 32) (v := ?_) (a' := ?_) (msk 15 1) rfl rfl (by kernel_rfl) (fun _ _ _ h => h) (Or.inl ⟨by rfl, ?_⟩) ?_ ?_; rotate_left; (focus (intro w'; go_simp; with_reducible rfl)); rotate_left; (focus (simp only [Act.put, qzA, qzB, qzC, i64_w, i32_w]; rfl))
    refine take_ (i := 1) (N := some 33) (v := ?_) (a' := ?_) (msk 15 2) rfl rfl (by kernel_rfl) (fun _ _ _ h => h) (Or.inl ⟨by rfl, ?_⟩) hHeld ?_ ?_; rotate_left; (focus (rintro w' ⟨s0, s1, s2, s3, s4, s5, s6⟩; go_simp; with_reducible rfl)); rotate_left; (focus (simp only [Act.put, qzA, qzB, qzC, i64_w, i32_w]; rfl))
    refine pure_ (i := 2) (N := some 34) (v := ?_) (a' := ?_) (msk 15 3) rfl rfl (by kernel_rfl) (fun _ _ _ h => h) (Or.inl ⟨by rfl, ?_⟩) ?_ ?_; rotate_left; (focus (intro w'; go_simp; with_reducible rfl)); rotate_left; (focus (simp only [Act.put, qzA, qzB, qzC, i64_w, i32_w]; rfl))
    refine pure_ (i := 3) (N := some 35) (v := ?_) (a' := ?_) (msk 15 4) rfl rfl (by kernel_rfl) (fun _ _ _ h => h) (Or.inl ⟨by rfl, ?_⟩) ?_ ?_; rotate_left; (focus (intro w'; go_simp; with_reducible rfl)); rotate_left; (focus (simp only [Act.put, qzA, qzB, qzC, i64_w, i32_w]; rfl))
    refine pure_ (i := 4) (N := some 36) (v := ?_) (a' := ?_) (msk 15 5) rfl rfl (by kernel_rfl) (fun _ _ _ h => h) (Or.inl ⟨by rfl, ?_⟩) ?_ ?_; rotate_left; (focus (intro w'; go_simp; with_reducible rfl)); rotate_left; (focus (simp only [Act.put, qzA, qzB, qzC, i64_w, i32_w]; rfl))
    refine pure_ (i := 5) (N := some 37) (v := ?_) (a' := ?_) (msk 15 6) rfl rfl (by kernel_rfl) (fun _ _ _ h => h) (Or.inl ⟨by rfl, ?_⟩) ?_ ?_; rotate_left; (focus (intro w'; go_simp; with_reducible rfl)); rotate_left; (focus (simp only [Act.put, qzA, qzB, qzC, i64_w, i32_w]; rfl))
    refine take_ (i := 6) (N := some 38) (v := ?_) (a' := ?_) (msk 15 7) rfl rfl (by kernel_rfl) (fun _ _ _ h => h) (Or.inl ⟨by rfl, ?_⟩) hHeld ?_ ?_; rotate_left; (focus (rintro w' ⟨s0, s1, s2, s3, s4, s5, s6⟩; go_simp; with_reducible rfl)); rotate_left; (focus (simp only [Act.put, qzA, qzB, qzC, i64_w, i32_w]; rfl))
    refine pure_ (i := 7) (N := some 39) (v := ?_) (a' := ?_) (msk 15 8) rfl rfl (by kernel_rfl) (fun _ _ _ h => h) (Or.inl ⟨by rfl, ?_⟩) ?_ ?_; rotate_left; (focus (intro w'; go_simp; with_reducible rfl)); rotate_left; (focus (simp only [Act.put, qzA, qzB, qzC, i64_w, i32_w]; rfl))
    refine take_ (i := 8) (N := some 40) (v := ?_) (a' := ?_) (msk 15 9) rfl rfl (by kernel_rfl) (fun _ _ _ h => h) (Or.inl ⟨by rfl, ?_⟩) hHeld ?_ ?_; rotate_left; (focus (rintro w' ⟨s0, s1, s2, s3, s4, s5, s6⟩; go_simp; with_reducible rfl)); rotate_left; (focus (simp only [Act.put, qzA, qzB, qzC, i64_w, i32_w]; rfl))
    refine pure_ (i := 9) (N := some 41) (v := ?_) (a' := ?_) (msk 15 10) rfl rfl (by kernel_rfl) (fun _ _ _ h => h) (Or.inl ⟨by rfl, ?_⟩) ?_ ?_; rotate_left; (focus (intro w'; go_simp; with_reducible rfl)); rotate_left; (focus (simp only [Act.put, qzA, qzB, qzC, i64_w, i32_w]; rfl))
    refine pure_ (i := 10) (N := some 42) (v := ?_) (a' := ?_) (msk 15 11) rfl rfl (by kernel_rfl) (fun _ _ _ h => h) (Or.inl ⟨by rfl, ?_⟩) ?_ ?_; rotate_left; (focus (intro w'; go_simp; with_reducible rfl)); rotate_left; (focus (simp only [Act.put, qzA, qzB, qzC, i64_w, i32_w]; rfl))
    refine pure_ (i := 11) (N := some 43) (v := ?_) (a' := ?_) (msk 15 12) rfl rfl (by kernel_rfl) (fun _ _ _ h => h) (Or.inl ⟨by rfl, ?_⟩) ?_ ?_; rotate_left; (focus (intro w'; go_simp; with_reducible rfl)); rotate_left; (focus (simp only [Act.put, qzA, qzB, qzC, i64_w, i32_w]; rfl))
    refine take_ (i := 12) (N := some 44) (v := ?_) (a' := ?_) (msk 15 13) rfl rfl (by kernel_rfl) (fun _ _ _ h => h) (Or.inl ⟨by rfl, ?_⟩) hHeld ?_ ?_; rotate_left; (focus (rintro w' ⟨s0, s1, s2, s3, s4, s5, s6⟩; go_simp; with_reducible rfl)); rotate_left; (focus (simp only [Act.put, qzA, qzB, qzC, i64_w, i32_w]; rfl))
    refine pure_ (i := 13) (N := some 45) (v := ?_) (a' := ?_) (msk 15 14) rfl rfl (by kernel_rfl) (fun _ _ _ h => h) (Or.inl ⟨by rfl, ?_⟩) ?_ ?_; rotate_left; (focus (intro w'; go_simp; with_reducible rfl)); rotate_left; (focus (simp only [Act.put, qzA, qzB, qzC, i64_w, i32_w]; rfl))
    refine last_ (i := 14) (N := none) (msk 15 15) rfl rfl (by kernel_rfl) (by decide) (fun K hK => ?_); refine skip_ (w1 := ?_) (by rfl) rfl ?_ ?_; rotate_left; (focus (go_simp; rfl)); refine hK.out _ _ ?_; clear hK K hHeld
    have hb5 := qai (j := 2) (v := .bool false) (qai (j := 1) (v := .int .i64 F.f1) (qai (j := 0) (v := .int .i64 L.f1.f1) HWD.out hge) hge) hge; have hbk5 := qba (qba (qba HBD.out 0 (.int .i64 L.f1.f1)) 1 (.int .i64 F.f1)) 2 (.bool false)
    generalize ((wd.setCell ⟨g, 0, none⟩ (.int .i64 L.f1.f1)).setCell ⟨g, 1, none⟩ (.int .i64 F.f1)).setCell ⟨g, 2, none⟩ (.bool false) = w5 at hb5 hbk5 ⊢
    have HW5 := qab.mk hb5; have HB5 := qab.mk hbk5; clear hb5 hbk5 HBD HWD f4 e0 e1 e2
    refine done_ (by kernel_rfl) ?_
    have hx : endL L l0_1 (j + 1) true = xs ++ [⟨L.f1.f1, F.f1, false⟩] := hsc
    have b0 : w5.cell? ⟨g, 0, none⟩ = some (.int .i64 (⟨L.f1.f1, F.f1, false⟩ : S44).f0) := qaa HB5.out 0; have b1 : w5.cell? ⟨g, 1, none⟩ = some (.int .i64 (⟨L.f1.f1, F.f1, false⟩ : S44).f1) := qaa HB5.out 1; have b2 : w5.cell? ⟨g, 2, none⟩ = some (.bool (⟨L.f1.f1, F.f1, false⟩ : S44).f2) := qaa HB5.out 2
    have HO5 := qab.mk (Kd.R_below HO.out HW5.out); have HBw := qab.mk (qad HBB.out HW5.out); have HBg := qab.mk (qag BKgb.out HW5.out)
    go_wp2_with ((with_reducible refine gate_builtin (b := .append) (xs := #[.tmp 46, .tmp 48]) rfl ?_); at_builtin; refine Kd.R_append k44 (w0 := w) w.heap.size rfl (.tmp 46) (.tmp 48) 27 44 (.agg #[.int .i64 0, .int .i64 0, .bool false]) 24 rfl Try.underlying27 info44 rfl (by decide) (by omega) u9 xs (⟨L.f1.f1, F.f1, false⟩ : S44) [.int .i64 (⟨L.f1.f1, F.f1, false⟩ : S44).f0, .int .i64 (⟨L.f1.f1, F.f1, false⟩ : S44).f1, .bool (⟨L.f1.f1, F.f1, false⟩ : S44).f2] (fun _ => True) (fun _ => False) rfl rfl ?aP (fun _ hk => hk.elim) ?aF ?aO ?aB ?aS ?aL ?_; (case aP => exact k44_mkM _ _ _ _); (case aF => exact (fun _ _ => trivial)); (case aO => exact HO5.out); (case aB => exact HBw.out); (case aS => exact HBw.out.size); (case aL => omega); intro v6 w6 ho hB hg hat)
    have hbe := blk_grown HBg.out hg (Kd.R_ne HO5.out HBg.out (by decide))
    have HBE := qab.mk hbe
    have HFO := qab.mk ho
    have HFB := qab.mk hB
    clear ho hB hg hat hbe
    go_roundw
    case rel => exact ⟨j + 1, _, by omega, rfl, by go_num, ⟨by rw [hx]; exact HFO.out⟩, HBE, HFB⟩
    case measure => simp [intOf]; omega
   | false =>
    have hx : endL L l0_1 (j + 1) false = xs ++ [⟨L.f1.f0, F.f0, false⟩] := hsc
    have b0 : w4.cell? ⟨g, 0, none⟩ = some (.int .i64 (⟨L.f1.f0, F.f0, false⟩ : S44).f0) := qaa HB4.out 0; have b1 : w4.cell? ⟨g, 1, none⟩ = some (.int .i64 (⟨L.f1.f0, F.f0, false⟩ : S44).f1) := qaa HB4.out 1; have b2 : w4.cell? ⟨g, 2, none⟩ = some (.bool (⟨L.f1.f0, F.f0, false⟩ : S44).f2) := qaa HB4.out 2
    have HO5 := qab.mk (Kd.R_below HO.out HW4.out); have HBw := qab.mk (qad HBB.out HW4.out); have HBg := qab.mk (qag BKgb.out HW4.out)
    go_wp2_with ((with_reducible refine gate_builtin (b := .append) (xs := #[.tmp 46, .tmp 48]) rfl ?_); at_builtin; refine Kd.R_append k44 (w0 := w) w.heap.size rfl (.tmp 46) (.tmp 48) 27 44 (.agg #[.int .i64 0, .int .i64 0, .bool false]) 24 rfl Try.underlying27 info44 rfl (by decide) (by omega) u9 xs (⟨L.f1.f0, F.f0, false⟩ : S44) [.int .i64 (⟨L.f1.f0, F.f0, false⟩ : S44).f0, .int .i64 (⟨L.f1.f0, F.f0, false⟩ : S44).f1, .bool (⟨L.f1.f0, F.f0, false⟩ : S44).f2] (fun _ => True) (fun _ => False) rfl rfl ?aP (fun _ hk => hk.elim) ?aF ?aO ?aB ?aS ?aL ?_; (case aP => exact k44_mkM _ _ _ _); (case aF => exact (fun _ _ => trivial)); (case aO => exact HO5.out); (case aB => exact HBw.out); (case aS => exact HBw.out.size); (case aL => omega); intro v6 w6 ho hB hg hat)
    have hbe := blk_grown HBg.out hg (Kd.R_ne HO5.out HBg.out (by decide))
    have HBE := qab.mk hbe
    have HFO := qab.mk ho
    have HFB := qab.mk hB
    clear ho hB hg hat hbe
    go_roundw
    case rel => exact ⟨j + 1, _, by omega, rfl, by go_num, ⟨by rw [hx]; exact HFO.out⟩, HBE, HFB⟩
    case measure => simp [intOf]; omega
  ·
   obtain rfl : j = N := by omega
   have hd : decide ((j : Int) < j) = false := decide_eq_false (by omega)
   go_wp2_with fail
   go_ret
   exact ⟨_, rfl, HO.out, HBB.out⟩
structure WMI (w : World) (gb g6 g7 : Nat) (nb : Array Value) (L : S39) (W : World) : Prop where
 b : W.heap[gb]? = some (.cells nb 26 (0, 0))
 r : W.heap[g6]? = some (.cells #[.int .i64 0, .int .i64 0] 37 (0, 0))
 l : W.heap[g7]? = some (.cells #[.int .i64 L.f0.f0, .int .i64 L.f0.f1, .int .i64 L.f1.f0, .int .i64 L.f1.f1, .int .i64 L.f2.f0, .int .i64 L.f2.f1, .int .i64 L.f3, .int .i64 L.f4, .int .i64 L.f5, .int .i64 L.f6, .int .i64 L.f7.f0, .int .i64 L.f7.f1] 39 (0, 0))
 hb : Below w.heap.size w W
 ge : w.heap.size ≤ g6
theorem WMI.below {w W W' : World} {gb g6 g7 : Nat} {nb : Array Value} {L : S39} (h : WMI w gb g6 g7 nb L W) (hb : Below W.heap.size W W') : WMI w gb g6 g7 nb L W' := ⟨qag h.b hb, qag h.r hb, qag h.l hb, qad h.hb hb, h.ge⟩
theorem play_tup (L : S39) (w : Int) (t : List S44) : talikref04_Play.f L.f0.f0 L.f0.f1 L.f1.f0 L.f1.f1 L.f2.f0 L.f2.f1 L.f3 L.f4 L.f5 L.f6 L.f7.f0 L.f7.f1 w t = some ((playR L w t).1, (playR L w t).2.1, (playR L w t).2.2.1, (playR L w t).2.2.2) := rfl
def talikref04_Warm.f (l0_0 : List (S39)) (l0_1 : List (S37)) (l0_2 : List (List Int)) (a1 : Int) (a2 : Int) : Option (Int × Int) := (talikref04_End.f l0_0 l0_1 l0_2 a1 a2 true).bind fun t => (talikref04_End.f l0_0 l0_1 l0_2 a1 a2 false).bind fun u => if 0 ≤ a1 ∧ a1 < l0_0.length then some ((playR (qal l0_0 a1) (qal l0_0 a1).f0.f0 t).1, (playR (qal l0_0 a1) (qal l0_0 a1).f0.f1 u).1) else none
theorem talikref04_Warm.calls (A0_0 : Option Addr) (c0_0 : Nat) (l0_0 : List (S39)) (A0_1 : Option Addr) (c0_1 : Nat) (l0_1 : List (S37)) (A0_2 : Option Addr) (c0_2 : Nat) (l0_2 : List (List Int)) (a1 : Int) (a2 : Int) (r1 : Int) (r2 : Int) (w : World) (hr0_0 : Kd.C k39 w A0_0 l0_0.length l0_0) (hc0_0 : l0_0.length ≤ c0_0) (hr0_1 : Kd.C k37 w A0_1 l0_1.length l0_1) (hc0_1 : l0_1.length ≤ c0_1) (hr0_2 : Kd.C (Kd.slice 3 (Kd.int .i64)) w A0_2 l0_2.length l0_2) (hc0_2 : l0_2.length ≤ c0_2) (h : talikref04_Warm.f l0_0 l0_1 l0_2 a1 a2 = some (r1, r2)) :
  Calls Try.prog 80 #[.agg #[.slice A0_0 l0_0.length c0_0, .slice A0_1 l0_1.length c0_1, .slice A0_2 l0_2.length c0_2], .int .i64 a1, .int .i64 a2] w fun e w' => e = .returned (.agg #[.int .i64 r1, .int .i64 r2]) ∧ Below w.heap.size w w' := by
 unfold talikref04_Warm.f at h
 obtain ⟨xt, het, h⟩ := Option.bind_eq_some_iff.1 h
 obtain ⟨xu, heu, h⟩ := Option.bind_eq_some_iff.1 h
 split at h
 case isFalse => cases h
 rename_i hc
 obtain ⟨q0, q1⟩ := hc
 have h' := Option.some.inj h
 clear h
 injection h' with h1 h2
 have H1 := qab.mk h1
 have H2 := qab.mk h2
 clear h1 h2
 obtain ⟨n, rfl⟩ := Int.eq_ofNat_of_zero_le q0
 have hu26 := Try.underlying26
 have hu31 := Try.underlying31
 have hu39 := Try.underlying39
 have hu37 := Try.underlying37
 have HB := qab.mk (Below.refl w.heap.size w)
 have HR0 := qab.mk hr0_0
 have HR1 := qab.mk hr0_1
 have HR2 := qab.mk hr0_2
 clear hr0_0 hr0_1 hr0_2
 obtain ⟨ad, e, hl0, hl1, hl2, hl3, hl4, hl5, hl6, hl7, hl8, hl9, hl10, hl11⟩ := at_T39 HR0.out n q0 q1
 cases e
 simp only [Int.toNat_natCast] at hl0 hl1 hl2 hl3 hl4 hl5 hl6 hl7 hl8 hl9 hl10 hl11
 have HEND : qab (∀ (b : Bool) (x : List S44), talikref04_End.f l0_0 l0_1 l0_2 n a2 b = some x → ∀ W, Below w.heap.size w W → _) := ⟨fun b x hx W hW => talikref04_End.calls _ _ l0_0 _ _ l0_1 _ _ l0_2 n a2 b x W (Kd.qaj HR0.out hW) hc0_0 (Kd.qaj HR1.out hW) hc0_1 (Kd.qaj HR2.out hW) hc0_2 hx⟩
 obtain ⟨L, hL⟩ : ∃ L, L = qal l0_0 (n : Int) := ⟨_, rfl⟩
 rw [← hL] at hl0 hl1 hl2 hl3 hl4 hl5 hl6 hl7 hl8 hl9 hl10 hl11 H1 H2
 clear hL
 have hfld31 := field31_0
 go_enter Try.func80, Try.ntmps80
 go_upto_region 2 with (first | ((with_reducible refine qan (N := 3) rfl ?_); refine qam ?hg (N := 3) ?hd (cs := #[.slice (some ad) l0_0.length c0_0, .slice A0_1 l0_1.length c0_1, .slice A0_2 l0_2.length c0_2]) (t := 26) ?hr ?_; (case hd => rfl); (case hg => rfl); (case hr => first | (go_simp; done) | (go_simp; rfl)); intro gb hg_gb w2 hbox hb; have BKgb := qab.mk hbox; have n_HB := qab.mk (qad HB.out hb); have GEgb : w.heap.size ≤ gb := (by rw [hg_gb]; exact HB.out.size); clear HB; have HB := n_HB; clear n_HB; obtain ⟨hfgb, hcgb_0, hcgb_1, hcgb_2⟩ := qz3 BKgb.out; clear hbox hb hg_gb) | ((with_reducible refine qan (N := 6) rfl ?_); refine qam ?hg (N := 6) ?hd (cs := #[.int .i64 0, .int .i64 0]) (t := 37) ?hr ?_; (case hd => rfl); (case hg => rfl); (case hr => first | (go_simp; done) | (go_simp; rfl)); intro g6 hg_g6 w3 hbox hb; have BKg6 := qab.mk hbox; replace BKgb := qab.mk (qag BKgb.out hb); have n_HB := qab.mk (qad HB.out hb); have GEg6 : w.heap.size ≤ g6 := (by rw [hg_g6]; exact HB.out.size); clear HB; have HB := n_HB; clear n_HB; obtain ⟨hfg6, hcg6_0, hcg6_1⟩ := qz2 BKg6.out; clear hbox hb hg_g6; obtain ⟨hfgb, hcgb_0, hcgb_1, hcgb_2⟩ := qz3 BKgb.out; replace hl0 := (HB.out.cell (World.block_lt_of_cell? w _ hl0)).trans hl0; replace hl1 := (HB.out.cell (World.block_lt_of_cell? w _ hl1)).trans hl1; replace hl2 := (HB.out.cell (World.block_lt_of_cell? w _ hl2)).trans hl2; replace hl3 := (HB.out.cell (World.block_lt_of_cell? w _ hl3)).trans hl3; replace hl4 := (HB.out.cell (World.block_lt_of_cell? w _ hl4)).trans hl4; replace hl5 := (HB.out.cell (World.block_lt_of_cell? w _ hl5)).trans hl5; replace hl6 := (HB.out.cell (World.block_lt_of_cell? w _ hl6)).trans hl6; replace hl7 := (HB.out.cell (World.block_lt_of_cell? w _ hl7)).trans hl7; replace hl8 := (HB.out.cell (World.block_lt_of_cell? w _ hl8)).trans hl8; replace hl9 := (HB.out.cell (World.block_lt_of_cell? w _ hl9)).trans hl9; replace hl10 := (HB.out.cell (World.block_lt_of_cell? w _ hl10)).trans hl10; replace hl11 := (HB.out.cell (World.block_lt_of_cell? w _ hl11)).trans hl11) | ((with_reducible refine qan (N := 7) rfl ?_); refine qam ?hg (N := 7) ?hd (cs := #[.int .i64 0, .int .i64 0, .int .i64 0, .int .i64 0, .int .i64 0, .int .i64 0, .int .i64 0, .int .i64 0, .int .i64 0, .int .i64 0, .int .i64 0, .int .i64 0]) (t := 39) ?hr ?_; (case hd => rfl); (case hg => rfl); (case hr => first | (go_simp; done) | (go_simp; rfl)); intro g7 hg_g7 w4 hbox hb; have BKg7 := qab.mk hbox; have ne_gb_g7 : gb ≠ g7 := (by rw [hg_g7]; exact Nat.ne_of_lt (blk_lt BKgb.out)); have ne_g6_g7 : g6 ≠ g7 := (by rw [hg_g7]; exact Nat.ne_of_lt (blk_lt BKg6.out)); replace BKgb := qab.mk (qag BKgb.out hb); replace BKg6 := qab.mk (qag BKg6.out hb); have n_HB := qab.mk (qad HB.out hb); have GEg7 : w.heap.size ≤ g7 := (by rw [hg_g7]; exact HB.out.size); clear HB; have HB := n_HB; clear n_HB; obtain ⟨hfg7, hcg7_0, hcg7_1, hcg7_2, hcg7_3, hcg7_4, hcg7_5, hcg7_6, hcg7_7, hcg7_8, hcg7_9, hcg7_10, hcg7_11⟩ := qz12 BKg7.out; clear hbox hb hg_g7))
 clear hl0 hl1 hl2 hl3 hl4 hl5 hl6 hl7 hl8 hl9 hl10 hl11 hfgb hcgb_0 hcgb_1 hcgb_2 hfg6 hcg6_0 hcg6_1
 have he_ : setAll w4 g7 [.int .i64 L.f0.f0, .int .i64 L.f0.f1, .int .i64 L.f1.f0, .int .i64 L.f1.f1, .int .i64 L.f2.f0, .int .i64 L.f2.f1, .int .i64 L.f3, .int .i64 L.f4, .int .i64 L.f5, .int .i64 L.f6, .int .i64 L.f7.f0, .int .i64 L.f7.f1] 0 = ((((((((((((w4.setCell ⟨g7, 0, none⟩ (.int .i64 L.f0.f0)).setCell ⟨g7, 1, none⟩ (.int .i64 L.f0.f1)).setCell ⟨g7, 2, none⟩ (.int .i64 L.f1.f0)).setCell ⟨g7, 3, none⟩ (.int .i64 L.f1.f1)).setCell ⟨g7, 4, none⟩ (.int .i64 L.f2.f0)).setCell ⟨g7, 5, none⟩ (.int .i64 L.f2.f1)).setCell ⟨g7, 6, none⟩ (.int .i64 L.f3)).setCell ⟨g7, 7, none⟩ (.int .i64 L.f4)).setCell ⟨g7, 8, none⟩ (.int .i64 L.f5)).setCell ⟨g7, 9, none⟩ (.int .i64 L.f6)).setCell ⟨g7, 10, none⟩ (.int .i64 L.f7.f0)).setCell ⟨g7, 11, none⟩ (.int .i64 L.f7.f1)) := rfl; have hbl := setAll_below GEg7 [.int .i64 L.f0.f0, .int .i64 L.f0.f1, .int .i64 L.f1.f0, .int .i64 L.f1.f1, .int .i64 L.f2.f0, .int .i64 L.f2.f1, .int .i64 L.f3, .int .i64 L.f4, .int .i64 L.f5, .int .i64 L.f6, .int .i64 L.f7.f0, .int .i64 L.f7.f1] 0 _ HB.out; have hbx : (setAll w4 g7 [.int .i64 L.f0.f0, .int .i64 L.f0.f1, .int .i64 L.f1.f0, .int .i64 L.f1.f1, .int .i64 L.f2.f0, .int .i64 L.f2.f1, .int .i64 L.f3, .int .i64 L.f4, .int .i64 L.f5, .int .i64 L.f6, .int .i64 L.f7.f0, .int .i64 L.f7.f1] 0).heap[g7]? = some (.cells #[.int .i64 L.f0.f0, .int .i64 L.f0.f1, .int .i64 L.f1.f0, .int .i64 L.f1.f1, .int .i64 L.f2.f0, .int .i64 L.f2.f1, .int .i64 L.f3, .int .i64 L.f4, .int .i64 L.f5, .int .i64 L.f6, .int .i64 L.f7.f0, .int .i64 L.f7.f1] 39 (0, 0)) := setAll_new [.int .i64 L.f0.f0, .int .i64 L.f0.f1, .int .i64 L.f1.f0, .int .i64 L.f1.f1, .int .i64 L.f2.f0, .int .i64 L.f2.f1, .int .i64 L.f3, .int .i64 L.f4, .int .i64 L.f5, .int .i64 L.f6, .int .i64 L.f7.f0, .int .i64 L.f7.f1] [.int .i64 0, .int .i64 0, .int .i64 0, .int .i64 0, .int .i64 0, .int .i64 0, .int .i64 0, .int .i64 0, .int .i64 0, .int .i64 0, .int .i64 0, .int .i64 0] BKg7.out rfl; have hx_BKgb := setAll_far ne_gb_g7 [.int .i64 L.f0.f0, .int .i64 L.f0.f1, .int .i64 L.f1.f0, .int .i64 L.f1.f1, .int .i64 L.f2.f0, .int .i64 L.f2.f1, .int .i64 L.f3, .int .i64 L.f4, .int .i64 L.f5, .int .i64 L.f6, .int .i64 L.f7.f0, .int .i64 L.f7.f1] 0 _ BKgb.out; have hx_BKg6 := setAll_far ne_g6_g7 [.int .i64 L.f0.f0, .int .i64 L.f0.f1, .int .i64 L.f1.f0, .int .i64 L.f1.f1, .int .i64 L.f2.f0, .int .i64 L.f2.f1, .int .i64 L.f3, .int .i64 L.f4, .int .i64 L.f5, .int .i64 L.f6, .int .i64 L.f7.f0, .int .i64 L.f7.f1] 0 _ BKg6.out; rw [he_] at hbl hbx hx_BKgb hx_BKg6; clear he_; generalize ((((((((((((w4.setCell ⟨g7, 0, none⟩ (.int .i64 L.f0.f0)).setCell ⟨g7, 1, none⟩ (.int .i64 L.f0.f1)).setCell ⟨g7, 2, none⟩ (.int .i64 L.f1.f0)).setCell ⟨g7, 3, none⟩ (.int .i64 L.f1.f1)).setCell ⟨g7, 4, none⟩ (.int .i64 L.f2.f0)).setCell ⟨g7, 5, none⟩ (.int .i64 L.f2.f1)).setCell ⟨g7, 6, none⟩ (.int .i64 L.f3)).setCell ⟨g7, 7, none⟩ (.int .i64 L.f4)).setCell ⟨g7, 8, none⟩ (.int .i64 L.f5)).setCell ⟨g7, 9, none⟩ (.int .i64 L.f6)).setCell ⟨g7, 10, none⟩ (.int .i64 L.f7.f0)).setCell ⟨g7, 11, none⟩ (.int .i64 L.f7.f1)) = w5 at hbl hbx hx_BKgb hx_BKg6 ⊢; clear HB BKg7; have HB := qab.mk hbl; have BKg7 := qab.mk hbx; clear hbl hbx; clear BKgb; have BKgb := qab.mk hx_BKgb; clear hx_BKgb; clear BKg6; have BKg6 := qab.mk hx_BKg6; clear hx_BKg6
 clear hfg7 hcg7_0 hcg7_1 hcg7_2 hcg7_3 hcg7_4 hcg7_5 hcg7_6 hcg7_7 hcg7_8 hcg7_9 hcg7_10 hcg7_11
 have HI : qab (WMI w gb g6 g7 #[.slice (some ad) l0_0.length c0_0, .slice A0_1 l0_1.length c0_1, .slice A0_2 l0_2.length c0_2] L w5) := ⟨⟨BKgb.out, BKg6.out, BKg7.out, HB.out, GEg6⟩⟩
 clear BKgb BKg6 BKg7 HB
 have HT : qab (∀ W, WMI w gb g6 g7 #[.slice (some ad) l0_0.length c0_0, .slice A0_1 l0_1.length c0_1, .slice A0_2 l0_2.length c0_2] L W → (W.cell? ⟨gb, 0, none⟩ = some (.slice (some ad) l0_0.length c0_0) ∧ W.cell? ⟨gb, 1, none⟩ = some (.slice A0_1 l0_1.length c0_1) ∧ W.cell? ⟨gb, 2, none⟩ = some (.slice A0_2 l0_2.length c0_2) ∧ W.cell? ⟨g7, 0, none⟩ = some (.int .i64 L.f0.f0) ∧ W.cell? ⟨g7, 1, none⟩ = some (.int .i64 L.f0.f1) ∧ W.cell? ⟨g7, 2, none⟩ = some (.int .i64 L.f1.f0) ∧ W.cell? ⟨g7, 3, none⟩ = some (.int .i64 L.f1.f1) ∧ W.cell? ⟨g7, 4, none⟩ = some (.int .i64 L.f2.f0) ∧ W.cell? ⟨g7, 5, none⟩ = some (.int .i64 L.f2.f1) ∧ W.cell? ⟨g7, 6, none⟩ = some (.int .i64 L.f3) ∧ W.cell? ⟨g7, 7, none⟩ = some (.int .i64 L.f4) ∧ W.cell? ⟨g7, 8, none⟩ = some (.int .i64 L.f5) ∧ W.cell? ⟨g7, 9, none⟩ = some (.int .i64 L.f6) ∧ W.cell? ⟨g7, 10, none⟩ = some (.int .i64 L.f7.f0) ∧ W.cell? ⟨g7, 11, none⟩ = some (.int .i64 L.f7.f1) ∧ qab (WMI w gb g6 g7 #[.slice (some ad) l0_0.length c0_0, .slice A0_1 l0_1.length c0_1, .slice A0_2 l0_2.length c0_2] L W))) := ⟨fun W h => ⟨qaa h.b 0, qaa h.b 1, qaa h.b 2, qaa h.l 0, qaa h.l 1, qaa h.l 2, qaa h.l 3, qaa h.l 4, qaa h.l 5, qaa h.l 6, qaa h.l 7, qaa h.l 8, qaa h.l 9, qaa h.l 10, qaa h.l 11, ⟨h⟩⟩⟩
 obtain ⟨wS, hwS⟩ : ∃ x, x = w5 := ⟨_, rfl⟩
 rw [← hwS] at HI ⊢
 clear hwS
 refine start_ (n := 22) (S := (fun w' => (w'.cell? ⟨gb, 0, none⟩ = some (.slice (some ad) l0_0.length c0_0) ∧ w'.cell? ⟨gb, 1, none⟩ = some (.slice A0_1 l0_1.length c0_1) ∧ w'.cell? ⟨gb, 2, none⟩ = some (.slice A0_2 l0_2.length c0_2) ∧ w'.cell? ⟨g7, 0, none⟩ = some (.int .i64 L.f0.f0) ∧ w'.cell? ⟨g7, 1, none⟩ = some (.int .i64 L.f0.f1) ∧ w'.cell? ⟨g7, 2, none⟩ = some (.int .i64 L.f1.f0) ∧ w'.cell? ⟨g7, 3, none⟩ = some (.int .i64 L.f1.f1) ∧ w'.cell? ⟨g7, 4, none⟩ = some (.int .i64 L.f2.f0) ∧ w'.cell? ⟨g7, 5, none⟩ = some (.int .i64 L.f2.f1) ∧ w'.cell? ⟨g7, 6, none⟩ = some (.int .i64 L.f3) ∧ w'.cell? ⟨g7, 7, none⟩ = some (.int .i64 L.f4) ∧ w'.cell? ⟨g7, 8, none⟩ = some (.int .i64 L.f5) ∧ w'.cell? ⟨g7, 9, none⟩ = some (.int .i64 L.f6) ∧ w'.cell? ⟨g7, 10, none⟩ = some (.int .i64 L.f7.f0) ∧ w'.cell? ⟨g7, 11, none⟩ = some (.int .i64 L.f7.f1) ∧ qab (WMI w gb g6 g7 #[.slice (some ad) l0_0.length c0_0, .slice A0_1 l0_1.length c0_1, .slice A0_2 l0_2.length c0_2] L w')))) (ds := [21]) (msk 22 0) (by kernel_rfl) rfl rfl (HT.out _ (WMI.below HI.out (qbb (Below.refl _ _)))) (fun hHeld => ?_)
 replace HI := qab.mk (WMI.below HI.out (qbb (Below.refl wS.heap.size wS))); generalize wS.drew = wT at HI hHeld ⊢
 refine take_ (i := 0) (N := some 13) (v := ?_) (a' := ?_) (msk 22 1) rfl rfl (by kernel_rfl) (fun _ _ _ h => h) (Or.inl ⟨by rfl, ?_⟩) hHeld ?_ ?_; rotate_left; (focus (rintro w' ⟨s0, s1, s2, s3, s4, s5, s6, s7, s8, s9, s10, s11, s12, s13, s14, s15⟩; go_simp; with_reducible rfl)); rotate_left; (focus (simp only [Act.put, qzA, qzB, qzC, i64_w, i32_w]; rfl))
 refine pure_ (i := 1) (N := some 14) (v := ?_) (a' := ?_) (msk 22 2) rfl rfl (by kernel_rfl) (fun _ _ _ h => h) (Or.inl ⟨by rfl, ?_⟩) ?_ ?_; rotate_left; (focus (intro w'; go_simp; with_reducible rfl)); rotate_left; (focus (simp only [Act.put, qzA, qzB, qzC, i64_w, i32_w]; rfl))
 refine pure_ (i := 2) (N := some 15) (v := ?_) (a' := ?_) (msk 22 3) rfl rfl (by kernel_rfl) (fun _ _ _ h => h) (Or.inl ⟨by rfl, ?_⟩) ?_ ?_; rotate_left; (focus (intro w'; go_simp; with_reducible rfl)); rotate_left; (focus (simp only [Act.put, qzA, qzB, qzC, i64_w, i32_w]; rfl))
 refine take_ (i := 3) (N := some 16) (v := ?_) (a' := ?_) (msk 22 4) rfl rfl (by kernel_rfl) (fun _ _ _ h => h) (Or.inl ⟨by rfl, ?_⟩) hHeld ?_ ?_; rotate_left; (focus (rintro w' ⟨s0, s1, s2, s3, s4, s5, s6, s7, s8, s9, s10, s11, s12, s13, s14, s15⟩; go_simp; with_reducible rfl)); rotate_left; (focus (simp only [Act.put, qzA, qzB, qzC, i64_w, i32_w]; rfl))
 refine take_ (i := 4) (N := some 17) (v := ?_) (a' := ?_) (msk 22 5) rfl rfl (by kernel_rfl) (fun _ _ _ h => h) (Or.inl ⟨by rfl, ?_⟩) hHeld ?_ ?_; rotate_left; (focus (rintro w' ⟨s0, s1, s2, s3, s4, s5, s6, s7, s8, s9, s10, s11, s12, s13, s14, s15⟩; go_simp; with_reducible rfl)); rotate_left; (focus (simp only [Act.put, qzA, qzB, qzC, i64_w, i32_w]; rfl))
 refine pure_ (i := 5) (N := some 18) (v := ?_) (a' := ?_) (msk 22 6) rfl rfl (by kernel_rfl) (fun _ _ _ h => h) (Or.inl ⟨by rfl, ?_⟩) ?_ ?_; rotate_left; (focus (intro w'; go_simp; with_reducible rfl)); rotate_left; (focus (simp only [Act.put, qzA, qzB, qzC, i64_w, i32_w]; rfl))
 refine pure_ (i := 6) (N := some 19) (v := ?_) (a' := ?_) (msk 22 7) rfl rfl (by kernel_rfl) (fun _ _ _ h => h) (Or.inl ⟨by rfl, ?_⟩) ?_ ?_; rotate_left; (focus (intro w'; go_simp; with_reducible rfl)); rotate_left; (focus (simp only [Act.put, qzA, qzB, qzC, i64_w, i32_w]; rfl))
 refine take_ (i := 10) (N := some 23) (v := ?_) (a' := ?_) #[true, true, true, true, true, true, true, false, false, false, true, false, false, false, false, false, false, false, false, false, false, false] rfl rfl (by kernel_rfl) (fun _ _ _ h => h) (Or.inl ⟨by rfl, ?_⟩) hHeld ?_ ?_; rotate_left; (focus (rintro w' ⟨s0, s1, s2, s3, s4, s5, s6, s7, s8, s9, s10, s11, s12, s13, s14, s15⟩; go_simp; with_reducible rfl)); rotate_left; (focus (simp only [Act.put, qzA, qzB, qzC, i64_w, i32_w]; rfl))
 refine pure_ (i := 11) (N := some 24) (v := ?_) (a' := ?_) #[true, true, true, true, true, true, true, false, false, false, true, true, false, false, false, false, false, false, false, false, false, false] rfl rfl (by kernel_rfl) (fun _ _ _ h => h) (Or.inl ⟨by rfl, ?_⟩) ?_ ?_; rotate_left; (focus (intro w'; go_simp; with_reducible rfl)); rotate_left; (focus (simp only [Act.put, qzA, qzB, qzC, i64_w, i32_w]; rfl))
 refine pure_ (i := 12) (N := some 25) (v := ?_) (a' := ?_) #[true, true, true, true, true, true, true, false, false, false, true, true, true, false, false, false, false, false, false, false, false, false] rfl rfl (by kernel_rfl) (fun _ _ _ h => h) (Or.inl ⟨by rfl, ?_⟩) ?_ ?_; rotate_left; (focus (intro w'; go_simp; with_reducible rfl)); rotate_left; (focus (simp only [Act.put, qzA, qzB, qzC, i64_w, i32_w]; rfl))
 refine take_ (i := 13) (N := some 26) (v := ?_) (a' := ?_) #[true, true, true, true, true, true, true, false, false, false, true, true, true, true, false, false, false, false, false, false, false, false] rfl rfl (by kernel_rfl) (fun _ _ _ h => h) (Or.inl ⟨by rfl, ?_⟩) hHeld ?_ ?_; rotate_left; (focus (rintro w' ⟨s0, s1, s2, s3, s4, s5, s6, s7, s8, s9, s10, s11, s12, s13, s14, s15⟩; go_simp; with_reducible rfl)); rotate_left; (focus (simp only [Act.put, qzA, qzB, qzC, i64_w, i32_w]; rfl))
 refine take_ (i := 14) (N := some 27) (v := ?_) (a' := ?_) #[true, true, true, true, true, true, true, false, false, false, true, true, true, true, true, false, false, false, false, false, false, false] rfl rfl (by kernel_rfl) (fun _ _ _ h => h) (Or.inl ⟨by rfl, ?_⟩) hHeld ?_ ?_; rotate_left; (focus (rintro w' ⟨s0, s1, s2, s3, s4, s5, s6, s7, s8, s9, s10, s11, s12, s13, s14, s15⟩; go_simp; with_reducible rfl)); rotate_left; (focus (simp only [Act.put, qzA, qzB, qzC, i64_w, i32_w]; rfl))
 refine pure_ (i := 15) (N := some 28) (v := ?_) (a' := ?_) #[true, true, true, true, true, true, true, false, false, false, true, true, true, true, true, true, false, false, false, false, false, false] rfl rfl (by kernel_rfl) (fun _ _ _ h => h) (Or.inl ⟨by rfl, ?_⟩) ?_ ?_; rotate_left; (focus (intro w'; go_simp; with_reducible rfl)); rotate_left; (focus (simp only [Act.put, qzA, qzB, qzC, i64_w, i32_w]; rfl))
 refine pure_ (i := 16) (N := some 29) (v := ?_) (a' := ?_) #[true, true, true, true, true, true, true, false, false, false, true, true, true, true, true, true, true, false, false, false, false, false] rfl rfl (by kernel_rfl) (fun _ _ _ h => h) (Or.inl ⟨by rfl, ?_⟩) ?_ ?_; rotate_left; (focus (intro w'; go_simp; with_reducible rfl)); rotate_left; (focus (simp only [Act.put, qzA, qzB, qzC, i64_w, i32_w]; rfl))
 refine one_ (i := 7) (N := some 20) #[true, true, true, true, true, true, true, true, false, false, true, true, true, true, true, true, true, false, false, false, false, false] rfl rfl (by kernel_rfl) (by decide) (fun K hK => ?_)
 refine goes_ Try.func48 (by kernel_rfl) rfl #[.agg #[.slice (some ad) l0_0.length c0_0, .slice A0_1 l0_1.length c0_1, .slice A0_2 l0_2.length c0_2], .int .i64 n, .int .i64 a2, .bool true] (by rfl) rfl rfl (by (try simp only [List.map_toArray, List.map_cons, List.map_nil]); first | done | rfl | (simp only [List.length_drop, List.length_take]; rfl)) ?_
 refine (HEND.out _ _ het _ (WMI.hb hHeld.2.2.2.2.2.2.2.2.2.2.2.2.2.2.2.out)).mono ?_; rintro e w5 ⟨vt, rfl, ho, hb⟩; have HP_t := qab.mk (HT.out w5 (WMI.below hHeld.2.2.2.2.2.2.2.2.2.2.2.2.2.2.2.out hb)); obtain ⟨At, ct, rfl⟩ := Kd.R_slice ho; have HR_t := qab.mk ho; clear ho hb; refine ⟨_, rfl, ?_⟩; refine hK.out _ _ HP_t.out (fun hHeld => ?_); clear hK K; refine norm_ (a' := ?_) ?_ ?_; rotate_left; (focus (show Act.put _ (some 20) _ = _; simp only [Act.put, qzA, qzB, qzC, i64_w, i32_w]; rfl))
 refine one_ (i := 8) (N := some 21) #[true, true, true, true, true, true, true, true, true, false, true, true, true, true, true, true, true, false, false, false, false, false] rfl rfl (by kernel_rfl) (by decide) (fun K hK => ?_)
 refine goes_ Try.func22 (by kernel_rfl) rfl #[.agg #[.int .i64 L.f0.f0, .int .i64 L.f0.f1, .int .i64 L.f1.f0, .int .i64 L.f1.f1, .int .i64 L.f2.f0, .int .i64 L.f2.f1, .int .i64 L.f3, .int .i64 L.f4, .int .i64 L.f5, .int .i64 L.f6, .int .i64 L.f7.f0, .int .i64 L.f7.f1], .int .i64 L.f0.f0, .slice At xt.length ct] (by rfl) rfl rfl (by (try simp only [List.map_toArray, List.map_cons, List.map_nil]); first | done | rfl | (simp only [List.length_drop, List.length_take]; rfl)) ?_
 refine (talikref04_Play.calls _ _ _ _ _ _ _ _ _ _ _ _ L.f0.f0 At ct xt _ _ _ _ _ (Kd.R_reads' HR_t.out).2.2 (Kd.R_reads' HR_t.out).2.1 (play_tup L L.f0.f0 xt)).mono ?_; rintro e w6 ⟨rfl, hb⟩; have HQ_t := qab.mk (HT.out w6 (WMI.below hHeld.2.2.2.2.2.2.2.2.2.2.2.2.2.2.2.out hb)); clear hb; refine ⟨_, rfl, ?_⟩; refine hK.out _ _ HQ_t.out (fun hHeld => ?_); clear hK K; refine norm_ (a' := ?_) ?_ ?_; rotate_left; (focus (show Act.put _ (some 21) _ = _; simp only [Act.put, qzA, qzB, qzC, i64_w, i32_w]; rfl))
 refine pure_ (i := 9) (N := some 22) (v := ?_) (a' := ?_) (msk 22 17) rfl rfl (by kernel_rfl) (fun _ _ _ h => h) (Or.inl ⟨by rfl, ?_⟩) ?_ ?_; rotate_left; (focus (intro w'; go_simp; with_reducible rfl)); rotate_left; (focus (simp only [Act.put, qzA, qzB, qzC, i64_w, i32_w]; rfl))
 refine one_ (i := 17) (N := some 30) (msk 22 18) rfl rfl (by kernel_rfl) (by decide) (fun K hK => ?_)
 refine goes_ Try.func48 (by kernel_rfl) rfl #[.agg #[.slice (some ad) l0_0.length c0_0, .slice A0_1 l0_1.length c0_1, .slice A0_2 l0_2.length c0_2], .int .i64 n, .int .i64 a2, .bool false] (by rfl) rfl rfl (by (try simp only [List.map_toArray, List.map_cons, List.map_nil]); first | done | rfl | (simp only [List.length_drop, List.length_take]; rfl)) ?_
 refine (HEND.out _ _ heu _ (WMI.hb hHeld.2.2.2.2.2.2.2.2.2.2.2.2.2.2.2.out)).mono ?_; rintro e w7 ⟨vu, rfl, ho, hb⟩; have HP_u := qab.mk (HT.out w7 (WMI.below hHeld.2.2.2.2.2.2.2.2.2.2.2.2.2.2.2.out hb)); obtain ⟨Au, cu, rfl⟩ := Kd.R_slice ho; have HR_u := qab.mk ho; clear ho hb; refine ⟨_, rfl, ?_⟩; refine hK.out _ _ HP_u.out (fun hHeld => ?_); clear hK K; refine norm_ (a' := ?_) ?_ ?_; rotate_left; (focus (show Act.put _ (some 30) _ = _; simp only [Act.put, qzA, qzB, qzC, i64_w, i32_w]; rfl))
 refine one_ (i := 18) (N := some 31) (msk 22 19) rfl rfl (by kernel_rfl) (by decide) (fun K hK => ?_)
 refine goes_ Try.func22 (by kernel_rfl) rfl #[.agg #[.int .i64 L.f0.f0, .int .i64 L.f0.f1, .int .i64 L.f1.f0, .int .i64 L.f1.f1, .int .i64 L.f2.f0, .int .i64 L.f2.f1, .int .i64 L.f3, .int .i64 L.f4, .int .i64 L.f5, .int .i64 L.f6, .int .i64 L.f7.f0, .int .i64 L.f7.f1], .int .i64 L.f0.f1, .slice Au xu.length cu] (by rfl) rfl rfl (by (try simp only [List.map_toArray, List.map_cons, List.map_nil]); first | done | rfl | (simp only [List.length_drop, List.length_take]; rfl)) ?_
 refine (talikref04_Play.calls _ _ _ _ _ _ _ _ _ _ _ _ L.f0.f1 Au cu xu _ _ _ _ _ (Kd.R_reads' HR_u.out).2.2 (Kd.R_reads' HR_u.out).2.1 (play_tup L L.f0.f1 xu)).mono ?_; rintro e w8 ⟨rfl, hb⟩; have HQ_u := qab.mk (HT.out w8 (WMI.below hHeld.2.2.2.2.2.2.2.2.2.2.2.2.2.2.2.out hb)); clear hb; have HZ := qab.mk HQ_u.out.2.2.2.2.2.2.2.2.2.2.2.2.2.2.2.out; obtain ⟨f6, r0⟩ := qz1 HZ.out.r; have r1' : w8.cell? ⟨g6, 1, none⟩ = some (.int .i64 0) := (qaa HZ.out.r 1).trans rfl; refine ⟨_, rfl, ?_⟩; refine hK.out _ _ HQ_u.out (fun hHeld => ?_); clear hK K; refine norm_ (a' := ?_) ?_ ?_; rotate_left; (focus (show Act.put _ (some 31) _ = _; simp only [Act.put, qzA, qzB, qzC, i64_w, i32_w]; rfl))
 refine pure_ (i := 19) (N := some 32) (v := ?_) (a' := ?_) (msk 22 20) rfl rfl (by kernel_rfl) (fun _ _ _ h => h) (Or.inl ⟨by rfl, ?_⟩) ?_ ?_; rotate_left; (focus (intro w'; go_simp; with_reducible rfl)); rotate_left; (focus (simp only [Act.put, qzA, qzB, qzC, i64_w, i32_w]; rfl))
 refine pure_ (i := 20) (N := some 33) (v := ?_) (a' := ?_) (msk 22 21) rfl rfl (by kernel_rfl) (fun _ _ _ h => h) (Or.inl ⟨by rfl, ?_⟩) ?_ ?_; rotate_left; (focus (intro w'; go_simp; with_reducible rfl)); rotate_left; (focus (simp only [Act.put, qzA, qzB, qzC, i64_w, i32_w]; rfl))
 refine last_ (i := 21) (N := none) (msk 22 22) rfl rfl (by kernel_rfl) (by decide) (fun K hK => ?_); refine skip_ (w1 := ?_) (by rfl) rfl ?_ ?_; rotate_left; (focus (go_simp; rfl)); refine hK.out _ _ ?_; clear hK K hHeld
 skip
 refine done_ (by kernel_rfl) ?_
 try go_wp2_with fail
 try rw [Exit.noGoto_ret]
 refine bodyPost_ret (results_cell_row rfl _ _ g6 37 #[.int .i64 (playR L L.f0.f0 xt).1, .int .i64 (playR L L.f0.f1 xu).1] (0, 0) _ rfl (qba (qba HZ.out.r 0 _) 1 _) Try.underlying37 rfl (by kernel_rfl)) rfl ?_
 exact ⟨by rw [H1.out, H2.out], qai (qai HZ.out.hb HZ.out.ge) HZ.out.ge⟩
end Go.Proofs.Ytipphcjgdebecaa.PA
