/- What functions of the program answer. No condition. -/
import Derived.Test.YtipphcjgdebecaaSC
import Derived.Test.YtipphcjgdebecaaSD
import Derived.Test.YtipphcjgdebecaaSF
import Derived.Test.YtipphcjgdebecaaPsA
import Derived.RangeFuncNested
import Derived.RangeFuncBound
import Derived.RangeFuncCalls
import Derived.RangeFuncLeaves
import Derived.RangeFuncBox
import Derived.Shelf.Abstract
import Derived.Shelf.RegionOpen
import Derived.OwnWalkIn
import Derived.TacticsInMore
import Derived.LoopNIn
import Derived.LoopIn
import Derived.Recover
import Derived.Defers
import Derived.WalkLawsBesides
import Derived.WalkSmall
import Derived.Test.YtipphcjgdebecaaSJ
import Derived.Test.YtipphcjgdebecaaSK
import Derived.Test.YtipphcjgdebecaaSL
import Derived.Test.YtipphcjgdebecaaSE
import Derived.Test.YtipphcjgdebecaaSH
import Derived.Test.YtipphcjgdebecaaSG
import Derived.Test.YtipphcjgdebecaaSM
set_option linter.all false
set_option maxRecDepth 100000
set_option maxHeartbeats 8000000
namespace Go.Proofs.Ytipphcjgdebecaa.PA
open Go.RowKit Go.Proofs.YtipphcjgdebecaaW.PrintWords Go.Proofs.YtipphcjgdebecaaW.PrintLast Go.Proofs.YtipphcjgdebecaaW.PrintMore
attribute [local go_sem] qaw qay max_two min_two qas qat qax qaz
theorem short_end (l0 : List S39) (l1 : List S37) (l2 : List (List Int)) (i : Int) (k : Nat) : taliklaw04_short.j1 (k + 1) i false l0 l1 l2 = some (decide (l0.length ≤ 8) && (decide (l1.length ≤ 77) && decide (l2.length ≤ 10))) := by
 unfold taliklaw04_short.j1
 rw [if_neg (by decide)]
 by_cases h0 : l0.length ≤ 8
 ·
  rw [if_pos (by omega)]
  by_cases h1 : l1.length ≤ 77
  ·
   rw [if_pos (by omega)]
   simp [h0, h1]
   omega
  ·
   rw [if_neg (by omega)]
   simp [h1]
 ·
  rw [if_neg (by omega)]
  simp [h0]
theorem short_go (l0 : List S39) (l1 : List S37) (l2 : List (List Int)) : ∀ (m i k : Nat), i + m = 10 → 2 * m + 2 ≤ k → taliklaw04_short.l0 k (i : Int) l0 l1 l2 = some (((l2.drop i).take m).all (fun r => decide (r.length ≤ 10)) && (decide (l0.length ≤ 8) && (decide (l1.length ≤ 77) && decide (l2.length ≤ 10)))) := by
 intro m
 induction m with
 | zero =>
  intro i k hi hk
  obtain ⟨k, rfl⟩ : ∃ k', k = k' + 2 := ⟨k - 2, by omega⟩
  unfold taliklaw04_short.l0
  have hd : decide ((i : Int) < 10) = false := by simp; omega
  rw [hd, short_end]
  simp
 | succ m ih =>
  intro i k hi hk
  obtain ⟨k, rfl⟩ : ∃ k', k = k' + 2 := ⟨k - 2, by omega⟩
  unfold taliklaw04_short.l0
  by_cases hlt : i < l2.length
  ·
   have hd : decide ((i : Int) < 10) = true := by simp; omega
   rw [if_pos (by omega), hd]
   unfold taliklaw04_short.j1
   rw [if_pos rfl, if_pos (by omega), if_pos (by omega), rd_L1_at l2 i hlt, List.drop_eq_getElem_cons hlt, List.take_succ_cons, List.all_cons]
   by_cases hr : l2[i].length ≤ 10
   ·
    rw [if_neg (by omega), wsucc i (by omega), ih (i + 1) k (by omega) (by omega)]
    simp [hr]
   ·
    rw [if_pos (by omega)]
    simp [hr]
  ·
   rw [if_neg (by omega), short_end, List.drop_eq_nil_of_le (by omega)]
   simp
theorem short_eq (l0 : List S39) (l1 : List S37) (l2 : List (List Int)) (k : Nat) (hk : 22 ≤ k) : taliklaw04_short.f k l0 l1 l2 = some (shortB l0 l1 l2) := short_go l0 l1 l2 10 0 k rfl (by omega)
theorem chkR_iff (i : Nat) : ∀ (row : List Int) (j : Nat), chkR i row j = true ↔ (∀ h ∈ row, inB h 0 72 = true) ∧ (∀ n (h : n < row.length), j + n = i → row[n] = 0)
 | [], j => by simp [chkR]
 | h :: t, j => by
  simp only [chkR, Bool.and_eq_true, Bool.or_eq_true, chkR_iff i t (j + 1), bne_iff_ne, ne_eq, beq_iff_eq, List.mem_cons, forall_eq_or_imp]
  constructor
  ·
   rintro ⟨h1, h2, h3, h4⟩
   refine ⟨⟨h1, h3⟩, fun n hn he => ?_⟩
   cases n with
   | zero => exact h2.resolve_left (fun hne => hne (by omega))
   | succ n => simpa using h4 n (by simpa using hn) (by omega)
  ·
   rintro ⟨⟨h1, h3⟩, h4⟩
   refine ⟨h1, ?_, h3, fun n hn he => h4 (n + 1) (by simp only [List.length_cons]; omega) (by omega)⟩
   by_cases he : i = j
   ·
    exact .inr (h4 0 (by simp) (by omega))
   ·
    exact .inl he
theorem rowsR_iff (n : Nat) : ∀ (l : List (List Int)) (i : Nat), rowsR n l i = true ↔ ∀ m (h : m < l.length), l[m].length = n ∧ chkR (i + m) l[m] 0 = true
 | [], i => by simp [rowsR]
 | r :: t, i => by
  simp only [rowsR, Bool.and_eq_true, decide_eq_true_eq, rowsR_iff n t (i + 1)]
  constructor
  ·
   rintro ⟨h1, h2, h3⟩ m hm
   cases m with
   | zero => exact ⟨h1, h2⟩
   | succ m => have := h3 m (by simpa using hm); simpa [Nat.add_assoc, Nat.add_comm 1 m] using this
  ·
   intro h
   refine ⟨(h 0 (by simp)).1, (h 0 (by simp)).2, fun m hm => ?_⟩
   have := h (m + 1) (by simpa using hm)
   simpa [Nat.add_assoc, Nat.add_comm 1 m] using this
theorem rows_ways (l0 : List S39) (l2 : List (List Int)) (hl : l2.length = l0.length + 1) : rowsR (l0.length + 1) l2 0 = waysB (l0.length + 1) l2 := by
 rw [Bool.eq_iff_iff, rowsR_iff]
 unfold waysB
 rw [List.all_eq_true]
 constructor
 ·
  intro h j hj
  have hj' : j < l2.length := by simpa using hj
  obtain ⟨h1, h2⟩ := h j hj'
  rw [Nat.zero_add, chkR_iff] at h2
  have e : l2.getD j [] = l2[j] := by simp [hj']
  rw [e]
  unfold rowB
  simp only [Bool.and_eq_true, decide_eq_true_eq, List.all_eq_true]
  have hz := h2.2 j (by omega) (by omega)
  refine ⟨by omega, ?_, h2.1⟩
  simp [rd, show j < l2[j].length by omega, hz]
 ·
  intro h m hm
  have h1 := h m (by simpa using hm)
  have e : l2.getD m [] = l2[m] := by simp [hm]
  rw [e] at h1
  unfold rowB at h1
  simp only [Bool.and_eq_true, decide_eq_true_eq, List.all_eq_true] at h1
  obtain ⟨h2, h3, h4⟩ := h1
  have h5 : l2[m].length = l0.length + 1 := by omega
  refine ⟨h5, ?_⟩
  rw [Nat.zero_add, chkR_iff]
  refine ⟨h4, fun n hn he => ?_⟩
  obtain rfl : n = m := by omega
  simpa [rd, hn] using h3
theorem net_eq (l0 : List S39) (l1 : List S37) (l2 : List (List Int)) (hs : Short l0 l1 l2) (k : Nat) (hk : 240 ≤ k) : talikref04_Net.f l0 l1 l2 = some (validB l0 l1 l2) := by
 have h' : talikref04_Net.f l0 l1 l2 = some (l0.all loopB && (l1.all (fun s => spanB s 0 1000) && (rowsR (l0.length + 1) l2 0 && finR l0 l1 l2))) := by
  unfold talikref04_Net.f
  rw [if_pos (of_short hs)]
 rw [h']
 congr 1
 unfold finR validB
 by_cases hl : l2.length = l0.length + 1
 ·
  have e1 : decide ((l2.length : Int) = (l0.length : Int) + 1) = true := by simp; omega
  rw [rows_ways l0 l2 hl, e1]
  simp only [hl, decide_true, Bool.and_true, Bool.true_and]
  cases l0.all loopB <;> cases (l1.all fun s => spanB s 0 1000) <;> cases waysB ((l0.length : Int) + 1) l2 <;> cases inB (l0.length : Int) 1 5 <;> cases inB (l1.length : Int) 1 72 <;> simp
 ·
  have e1 : decide ((l2.length : Int) = (l0.length : Int) + 1) = false := by simp; omega
  rw [e1]
  simp [hl]
end Go.Proofs.Ytipphcjgdebecaa.PA
namespace Go.Proofs.Ytipphcjgdebecaa.PA
open Go.RowKit Go.Shelf Go.Proofs.YtipphcjgdebecaaW.PrintWords Go.Proofs.YtipphcjgdebecaaW.PrintLast Go.Proofs.YtipphcjgdebecaaW.PrintMore
attribute [local go_sem] qaw qay max_two min_two qas qat qax qaz
end Go.Proofs.Ytipphcjgdebecaa.PA
namespace Go.Proofs.Ytipphcjgdebecaa.PA
open Go.RowKit Go.Proofs.YtipphcjgdebecaaW.PrintWords Go.Proofs.YtipphcjgdebecaaW.PrintLast Go.Proofs.YtipphcjgdebecaaW.PrintMore
attribute [local go_sem] qaw qay max_two min_two qas qat qax qaz
def endL (L : S39) (l1 : List S37) (n : Nat) (most : Bool) : List S44 := (List.range n).map fun h : Nat => ⟨if most = true then L.f1.f1 else L.f1.f0, if most = true then (rd_T37 l1 h).f1 else (rd_T37 l1 h).f0, false⟩
theorem endL_succ (L : S39) (l1 : List S37) (n : Nat) (most : Bool) : endL L l1 (n + 1) most = endL L l1 n most ++ [⟨if most = true then L.f1.f1 else L.f1.f0, if most = true then (rd_T37 l1 n).f1 else (rd_T37 l1 n).f0, false⟩] := by simp [endL, List.range_succ]
theorem endL_length (L : S39) (l1 : List S37) (n : Nat) (most : Bool) : (endL L l1 n most).length = n := by simp [endL]
def talikref04_End.f (l0_0 : List (S39)) (l0_1 : List (S37)) (l0_2 : List (List Int)) (a1 : Int) (a2 : Int) (a3 : Bool) : Option ((List (S44))) := if 0 ≤ a1 ∧ a1 < l0_0.length ∧ 0 ≤ a2 ∧ a2 ≤ l0_1.length ∧ l0_1.length ≤ 1000 then some (endL (qal l0_0 a1) l0_1 a2.toNat a3) else none
theorem talikref04_End.calls (A0_0 : Option Addr) (c0_0 : Nat) (l0_0 : List (S39)) (A0_1 : Option Addr) (c0_1 : Nat) (l0_1 : List (S37)) (A0_2 : Option Addr) (c0_2 : Nat) (l0_2 : List (List Int)) (a1 : Int) (a2 : Int) (a3 : Bool) (r : List (S44)) (w : World) (hr0_0 : Kd.C k39 w A0_0 l0_0.length l0_0) (hc0_0 : l0_0.length ≤ c0_0) (hr0_1 : Kd.C k37 w A0_1 l0_1.length l0_1) (hc0_1 : l0_1.length ≤ c0_1) (hr0_2 : Kd.C (Kd.slice 3 (Kd.int .i64)) w A0_2 l0_2.length l0_2) (hc0_2 : l0_2.length ≤ c0_2) (h : talikref04_End.f l0_0 l0_1 l0_2 a1 a2 a3 = some r) :
  Calls Try.prog 48 #[.agg #[.slice A0_0 l0_0.length c0_0, .slice A0_1 l0_1.length c0_1, .slice A0_2 l0_2.length c0_2], .int .i64 a1, .int .i64 a2, .bool a3] w fun e w' => ∃ v0_ : Value, e = .returned (v0_) ∧ Kd.R k44 44 w' w.heap.size (fun _ => True) v0_ r ∧ Below w.heap.size w w' := by
 unfold talikref04_End.f at h
 split at h
 case isFalse => cases h
 rename_i hc
 have h' := Option.some.inj h
 clear h
 obtain ⟨q0, q1, q2, q3, q4⟩ := hc
 obtain ⟨n, rfl⟩ := Int.eq_ofNat_of_zero_le q0
 obtain ⟨N, rfl⟩ := Int.eq_ofNat_of_zero_le q2
 rw [Int.toNat_natCast] at h'
 subst h'
 have hu26 := Try.underlying26
 have hu39 := Try.underlying39
 have hu37 := Try.underlying37
 have hu44 := Try.underlying44
 have HB := qab.mk (Below.refl w.heap.size w)
 obtain ⟨ad, e, hl0, hl1, hl2, hl3, hl4, hl5, hl6, hl7, hl8, hl9, hl10, hl11⟩ := at_T39 hr0_0 n q0 q1
 cases e
 clear hl0 hl1 hl4 hl5 hl6 hl7 hl8 hl9 hl10 hl11
 simp only [Int.toNat_natCast] at hl2 hl3
 obtain ⟨L, hL⟩ : ∃ L, L = qal l0_0 (n : Int) := ⟨_, rfl⟩
 rw [← hL] at hl2 hl3 ⊢
 have HL := qab.mk (And.intro hl2 hl3)
 have HR1 := qab.mk hr0_1
 clear hl2 hl3 hL hr0_0 hr0_1 hr0_2
 go_enter Try.func48, Try.ntmps48
 go_wp2_with (first | (with_reducible refine qan (N := 4) rfl ?_); refine qam ?hg (N := 4) ?hd (cs := #[.slice (some ad) l0_0.length c0_0, .slice A0_1 l0_1.length c0_1, .slice A0_2 l0_2.length c0_2]) (t := 26) ?hr ?_; (case hd => rfl); (case hg => rfl); (case hr => first | (go_simp; done) | (go_simp; rfl)); intro gb hg_gb w2 hbox hb; have BKgb := qab.mk hbox; have n_HB := qab.mk (qad HB.out hb); have GEgb : w.heap.size ≤ gb := (by rw [hg_gb]; exact HB.out.size); clear HB; have HB := n_HB; clear n_HB; obtain ⟨hfgb, hcgb_0, hcgb_1, hcgb_2⟩ := qz3 BKgb.out; clear hbox hb hg_gb)
 clear hfgb hcgb_0 hcgb_1 hcgb_2
 have HO0 : qab (Kd.R k44 44 w2 w.heap.size (fun _ => True) (.slice none 0 0) []) := ⟨Kd.R_nil _ _ _ _ _⟩
 go_loopw [9, 10] (fun s9 s10 wr => ∃ (j : Nat) (vo : Value), j ≤ N ∧ s9 = vo ∧ s10 = .int .i64 j ∧ qab (Kd.R k44 44 wr w.heap.size (fun _ => True) vo (endL L l0_1 j a3)) ∧ qab (wr.heap[gb]? = some (.cells #[.slice (some ad) l0_0.length c0_0, .slice A0_1 l0_1.length c0_1, .slice A0_2 l0_2.length c0_2] 26 (0, 0))) ∧ qab (Below w.heap.size w wr)) (fun _ s _ => N - (intOf s).toNat)
 case atStart => exact ⟨0, _, by omega, rfl, rfl, HO0, BKgb, HB⟩
 case round =>
  clear HO0 BKgb HB
  obtain ⟨j, vo, hj, rfl, rfl, HO, BKgb, HBB⟩ := hrel
  by_cases hlt : j < N
  ·
   have hlt1 : (j : Int) < N := by omega
   have hj0 : (0 : Int) ≤ j := by omega
   have hjl : (j : Int) < l0_1.length := by omega
   have hn0 : (0 : Int) ≤ n := q0
   have hd : decide ((j : Int) < N) = true := decide_eq_true hlt1
   have hsc := endL_succ L l0_1 j a3
   have hxl := endL_length L l0_1 j a3
   generalize endL L l0_1 j a3 = xs at hsc hxl HO
   obtain ⟨wO, rfl⟩ : ∃ wo : World, wo = wr := ⟨_, rfl⟩
   obtain ⟨ad1, e, hf0, hf1⟩ := at_T37 (Kd.qaj HR1.out HBB.out) j hj0 hjl
   cases e
   simp only [Int.toNat_natCast] at hf0 hf1
   generalize rd_T37 l0_1 (j : Int) = F at hf0 hf1 hsc
   have htup : ∀ W, Below wO.heap.size wO W → (W.cell? ⟨gb, 0, none⟩ = some (.slice (some ad) l0_0.length c0_0) ∧ W.cell? ⟨gb, 1, none⟩ = some (.slice (some ad1) l0_1.length c0_1) ∧ W.cell? ⟨(ad.add (n * 12)).block, (ad.add (n * 12)).off + 2, none⟩ = some (.int .i64 L.f1.f0) ∧ W.cell? ⟨(ad.add (n * 12)).block, (ad.add (n * 12)).off + 3, none⟩ = some (.int .i64 L.f1.f1) ∧ W.cell? (ad1.add (j * 2)) = some (.int .i64 F.f0) ∧ W.cell? ⟨(ad1.add (j * 2)).block, (ad1.add (j * 2)).off + 1, none⟩ = some (.int .i64 F.f1) ∧ qab (Below wO.heap.size wO W)) := fun W h => ⟨qaa (qag BKgb.out h) 0, qaa (qag BKgb.out h) 1, ((qad HBB.out h).cell (World.block_lt_of_cell? w _ HL.out.1)).trans HL.out.1, ((qad HBB.out h).cell (World.block_lt_of_cell? w _ HL.out.2)).trans HL.out.2, (h.cell (World.block_lt_of_cell? wO _ hf0)).trans hf0, (h.cell (World.block_lt_of_cell? wO _ hf1)).trans hf1, ⟨h⟩⟩
   have HT := qab.mk htup
   clear htup hf0 hf1
   have hw1 : IntKind.i64.wrap ((j : Int) + 1) = (j : Int) + 1 := by rw [i64_w]; unfold wrap64; omega
   go_upto_region 5 with fail
   refine start_ (n := 16) (S := (fun w' => (w'.cell? ⟨gb, 0, none⟩ = some (.slice (some ad) l0_0.length c0_0) ∧ w'.cell? ⟨gb, 1, none⟩ = some (.slice (some ad1) l0_1.length c0_1) ∧ w'.cell? ⟨(ad.add (n * 12)).block, (ad.add (n * 12)).off + 2, none⟩ = some (.int .i64 L.f1.f0) ∧ w'.cell? ⟨(ad.add (n * 12)).block, (ad.add (n * 12)).off + 3, none⟩ = some (.int .i64 L.f1.f1) ∧ w'.cell? (ad1.add (j * 2)) = some (.int .i64 F.f0) ∧ w'.cell? ⟨(ad1.add (j * 2)).block, (ad1.add (j * 2)).off + 1, none⟩ = some (.int .i64 F.f1) ∧ qab (Below wO.heap.size wO w')))) (ds := [15]) (msk 16 0) (by kernel_rfl) rfl rfl (HT.out wO.drew (qbb (Below.refl _ _))) (fun hHeld => ?_)
   refine pure_ (i := 0) (N := some 17) (v := ?_) (a' := ?_) (msk 16 1) rfl rfl (by kernel_rfl) (fun _ _ _ h => h) (Or.inl ⟨by rfl, ?_⟩) ?_ ?_; rotate_left; (focus (intro w'; go_simp; with_reducible rfl)); rotate_left; (focus (simp only [Act.put, qzA, qzB, qzC, i64_w, i32_w]; rfl))
   refine take_ (i := 1) (N := some 18) (v := ?_) (a' := ?_) (msk 16 2) rfl rfl (by kernel_rfl) (fun _ _ _ h => h) (Or.inl ⟨by rfl, ?_⟩) hHeld ?_ ?_; rotate_left; (focus (rintro w' ⟨s0, s1, s2, s3, s4, s5, s6⟩; go_simp; with_reducible rfl)); rotate_left; (focus (simp only [Act.put, qzA, qzB, qzC, i64_w, i32_w]; rfl))
   refine pure_ (i := 2) (N := some 19) (v := ?_) (a' := ?_) (msk 16 3) rfl rfl (by kernel_rfl) (fun _ _ _ h => h) (Or.inl ⟨by rfl, ?_⟩) ?_ ?_; rotate_left; (focus (intro w'; go_simp; with_reducible rfl)); rotate_left; (focus (simp only [Act.put, qzA, qzB, qzC, i64_w, i32_w]; rfl))
   refine pure_ (i := 3) (N := some 20) (v := ?_) (a' := ?_) (msk 16 4) rfl rfl (by kernel_rfl) (fun _ _ _ h => h) (Or.inl ⟨by rfl, ?_⟩) ?_ ?_; rotate_left; (focus (intro w'; go_simp; with_reducible rfl)); rotate_left; (focus (simp only [Act.put, qzA, qzB, qzC, i64_w, i32_w]; rfl))
   refine pure_ (i := 4) (N := some 21) (v := ?_) (a' := ?_) (msk 16 5) rfl rfl (by kernel_rfl) (fun _ _ _ h => h) (Or.inl ⟨by rfl, ?_⟩) ?_ ?_; rotate_left; (focus (intro w'; go_simp; with_reducible rfl)); rotate_left; (focus (simp only [Act.put, qzA, qzB, qzC, i64_w, i32_w]; rfl))
   refine pure_ (i := 5) (N := some 22) (v := ?_) (a' := ?_) (msk 16 6) rfl rfl (by kernel_rfl) (fun _ _ _ h => h) (Or.inl ⟨by rfl, ?_⟩) ?_ ?_; rotate_left; (focus (intro w'; go_simp; with_reducible rfl)); rotate_left; (focus (simp only [Act.put, qzA, qzB, qzC, i64_w, i32_w]; rfl))
   refine take_ (i := 6) (N := some 23) (v := ?_) (a' := ?_) (msk 16 7) rfl rfl (by kernel_rfl) (fun _ _ _ h => h) (Or.inl ⟨by rfl, ?_⟩) hHeld ?_ ?_; rotate_left; (focus (rintro w' ⟨s0, s1, s2, s3, s4, s5, s6⟩; go_simp; with_reducible rfl)); rotate_left; (focus (simp only [Act.put, qzA, qzB, qzC, i64_w, i32_w]; rfl))
   refine pure_ (i := 7) (N := some 24) (v := ?_) (a' := ?_) (msk 16 8) rfl rfl (by kernel_rfl) (fun _ _ _ h => h) (Or.inl ⟨by rfl, ?_⟩) ?_ ?_; rotate_left; (focus (intro w'; go_simp; with_reducible rfl)); rotate_left; (focus (simp only [Act.put, qzA, qzB, qzC, i64_w, i32_w]; rfl))
   refine take_ (i := 8) (N := some 25) (v := ?_) (a' := ?_) (msk 16 9) rfl rfl (by kernel_rfl) (fun _ _ _ h => h) (Or.inl ⟨by rfl, ?_⟩) hHeld ?_ ?_; rotate_left; (focus (rintro w' ⟨s0, s1, s2, s3, s4, s5, s6⟩; go_simp; with_reducible rfl)); rotate_left; (focus (simp only [Act.put, qzA, qzB, qzC, i64_w, i32_w]; rfl))
   refine pure_ (i := 9) (N := some 26) (v := ?_) (a' := ?_) (msk 16 10) rfl rfl (by kernel_rfl) (fun _ _ _ h => h) (Or.inl ⟨by rfl, ?_⟩) ?_ ?_; rotate_left; (focus (intro w'; go_simp; with_reducible rfl)); rotate_left; (focus (simp only [Act.put, qzA, qzB, qzC, i64_w, i32_w]; rfl))
   refine pure_ (i := 10) (N := some 27) (v := ?_) (a' := ?_) (msk 16 11) rfl rfl (by kernel_rfl) (fun _ _ _ h => h) (Or.inl ⟨by rfl, ?_⟩) ?_ ?_; rotate_left; (focus (intro w'; go_simp; with_reducible rfl)); rotate_left; (focus (simp only [Act.put, qzA, qzB, qzC, i64_w, i32_w]; rfl))
   refine pure_ (i := 11) (N := some 28) (v := ?_) (a' := ?_) (msk 16 12) rfl rfl (by kernel_rfl) (fun _ _ _ h => h) (Or.inl ⟨by rfl, ?_⟩) ?_ ?_; rotate_left; (focus (intro w'; go_simp; with_reducible rfl)); rotate_left; (focus (simp only [Act.put, qzA, qzB, qzC, i64_w, i32_w]; rfl))
   refine take_ (i := 12) (N := some 29) (v := ?_) (a' := ?_) (msk 16 13) rfl rfl (by kernel_rfl) (fun _ _ _ h => h) (Or.inl ⟨by rfl, ?_⟩) hHeld ?_ ?_; rotate_left; (focus (rintro w' ⟨s0, s1, s2, s3, s4, s5, s6⟩; go_simp; with_reducible rfl)); rotate_left; (focus (simp only [Act.put, qzA, qzB, qzC, i64_w, i32_w]; rfl))
   refine pure_ (i := 13) (N := some 30) (v := ?_) (a' := ?_) (msk 16 14) rfl rfl (by kernel_rfl) (fun _ _ _ h => h) (Or.inl ⟨by rfl, ?_⟩) ?_ ?_; rotate_left; (focus (intro w'; go_simp; with_reducible rfl)); rotate_left; (focus (simp only [Act.put, qzA, qzB, qzC, i64_w, i32_w]; rfl))
   refine one_ (i := 14) (N := some 11) (msk 16 15) rfl rfl (by kernel_rfl) (by decide) (fun K hK => ?_); refine box_step ?hg (N := 11) ?hd (cs := #[.int .i64 0, .int .i64 0, .bool false]) (t := 44) ?hr ?_; (case hd => rfl); (case hg => rfl); (case hr => first | (go_simp; done) | (go_simp; rfl)); intro g hg_ w3 hbox hb
   have hge : wO.heap.size ≤ g := (by rw [hg_]; exact Nat.le_refl _); clear hg_; have HBK := qab.mk hbox; have HWB := qab.mk (qad (qbb (Below.refl wO.heap.size wO)) hb); clear hbox hb; have f3 := qac HBK.out; have b0 : w3.cell? ⟨g, 0, none⟩ = some (.int .i64 0) := qaa HBK.out 0; have b1 : w3.cell? ⟨g, 1, none⟩ = some (.int .i64 0) := qaa HBK.out 1; have b2 : w3.cell? ⟨g, 2, none⟩ = some (.bool false) := qaa HBK.out 2
   refine hK.out _ _ (HT.out w3 HWB.out) (fun hHeld => ?_); clear hK K; refine norm_ (a' := ?_) ?_ ?_; rotate_left; (focus (show Act.put _ (some 11) _ = _; simp only [Act.put, qzA, qzB, qzC, i64_w, i32_w]; rfl))
   refine last_ (i := 15) (N := none) (msk 16 16) rfl rfl (by kernel_rfl) (by decide) (fun K hK => ?_); refine skip_ (w1 := ?_) (by rfl) rfl ?_ ?_; rotate_left; (focus (go_simp; rfl)); refine hK.out _ _ ?_; clear hK K hHeld
   have hb4 := qai (j := 2) (v := .bool false) (qai (j := 1) (v := .int .i64 F.f0) (qai (j := 0) (v := .int .i64 L.f1.f0) HWB.out hge) hge) hge; have hbk4 := qba (qba (qba HBK.out 0 (.int .i64 L.f1.f0)) 1 (.int .i64 F.f0)) 2 (.bool false)
   generalize ((w3.setCell ⟨g, 0, none⟩ (.int .i64 L.f1.f0)).setCell ⟨g, 1, none⟩ (.int .i64 F.f0)).setCell ⟨g, 2, none⟩ (.bool false) = w4 at hb4 hbk4 ⊢
   have HW4 := qab.mk hb4; have HB4 := qab.mk hbk4; clear hb4 hbk4 HBK HWB f3 b0 b1 b2
   refine done_ (by kernel_rfl) ?_
   cases a3 with
   | true =>
    go_upto_region 7 with fail
    refine start_ (n := 15) (S := (fun w' => (w'.cell? ⟨gb, 0, none⟩ = some (.slice (some ad) l0_0.length c0_0) ∧ w'.cell? ⟨gb, 1, none⟩ = some (.slice (some ad1) l0_1.length c0_1) ∧ w'.cell? ⟨(ad.add (n * 12)).block, (ad.add (n * 12)).off + 2, none⟩ = some (.int .i64 L.f1.f0) ∧ w'.cell? ⟨(ad.add (n * 12)).block, (ad.add (n * 12)).off + 3, none⟩ = some (.int .i64 L.f1.f1) ∧ w'.cell? (ad1.add (j * 2)) = some (.int .i64 F.f0) ∧ w'.cell? ⟨(ad1.add (j * 2)).block, (ad1.add (j * 2)).off + 1, none⟩ = some (.int .i64 F.f1) ∧ qab (Below wO.heap.size wO w')))) (ds := [14]) (msk 15 0) (by kernel_rfl) rfl rfl (HT.out w4.drew (qbb HW4.out)) (fun hHeld => ?_)
    have hwd := qbb HW4.out; have hbd := qag HB4.out (qbb (Below.refl w4.heap.size w4)); generalize w4.drew = wd at hwd hbd hHeld ⊢; have HWD := qab.mk hwd; have HBD := qab.mk hbd; clear hwd hbd; obtain ⟨f4, e0, e1, e2⟩ := qz3 HBD.out
    refine pure_ (i := 0) (N := some 32) (v := ?_) (a' := ?_) (msk 15 1) rfl rfl (by kernel_rfl) (fun _ _ _ h => h) (Or.inl ⟨by rfl, ?_⟩) ?_ ?_; rotate_left; (focus (intro w'; go_simp; with_reducible rfl)); rotate_left; (focus (simp only [Act.put, qzA, qzB, qzC, i64_w, i32_w]; rfl))
    refine take_ (i := 1) (N := some 33) (v := ?_) (a' := ?_) (msk 15 2) rfl rfl (by kernel_rfl) (fun _ _ _ h => h) (Or.inl ⟨by rfl, ?_⟩) hHeld ?_ ?_; rotate_left; (focus (rintro w' ⟨s0, s1, s2, s3, s4, s5, s6⟩; go_simp; with_reducible rfl)); rotate_left; (focus (simp only [Act.put, qzA, qzB, qzC, i64_w, i32_w]; rfl))
    refine pure_ (i := 2) (N := some 34) (v := ?_) (a' := ?_) (msk 15 3) rfl rfl (by kernel_rfl) (fun _ _ _ h => h) (Or.inl ⟨by rfl, ?_⟩) ?_ ?_; rotate_left; (focus (intro w'; go_simp; with_reducible rfl)); rotate_left; (focus (simp only [Act.put, qzA, qzB, qzC, i64_w, i32_w]; rfl))
    refine pure_ (i := 3) (N := some 35) (v := ?_) (a' := ?_) (msk 15 4) rfl rfl (by kernel_rfl) (fun _ _ _ h => h) (Or.inl ⟨by rfl, ?_⟩) ?_ ?_; rotate_left; (focus (intro w'; go_simp; with_reducible rfl)); rotate_left; (focus (simp only [Act.put, qzA, qzB, qzC, i64_w, i32_w]; rfl))
    refine pure_ (i := 4) (N := some 36) (v := ?_) (a' := ?_) (msk 15 5) rfl rfl (by kernel_rfl) (fun _ _ _ h => h) (Or.inl ⟨by rfl, ?_⟩) ?_ ?_; rotate_left; (focus (intro w'; go_simp; with_reducible rfl)); rotate_left; (focus (simp only [Act.put, qzA, qzB, qzC, i64_w, i32_w]; rfl))
    refine pure_ (i := 5) (N := some 37) (v := ?_) (a' := ?_) (msk 15 6) rfl rfl (by kernel_rfl) (fun _ _ _ h => h) (Or.inl ⟨by rfl, ?_⟩) ?_ ?_; rotate_left; (focus (intro w'; go_simp; with_reducible rfl)); rotate_left; (focus (simp only [Act.put, qzA, qzB, qzC, i64_w, i32_w]; rfl))
    refine take_ (i := 6) (N := some 38) (v := ?_) (a' := ?_) (msk 15 7) rfl rfl (by kernel_rfl) (fun _ _ _ h => h) (Or.inl ⟨by rfl, ?_⟩) hHeld ?_ ?_; rotate_left; (focus (rintro w' ⟨s0, s1, s2, s3, s4, s5, s6⟩; go_simp; with_reducible rfl)); rotate_left; (focus (simp only [Act.put, qzA, qzB, qzC, i64_w, i32_w]; rfl))
    refine pure_ (i := 7) (N := some 39) (v := ?_) (a' := ?_) (msk 15 8) rfl rfl (by kernel_rfl) (fun _ _ _ h => h) (Or.inl ⟨by rfl, ?_⟩) ?_ ?_; rotate_left; (focus (intro w'; go_simp; with_reducible rfl)); rotate_left; (focus (simp only [Act.put, qzA, qzB, qzC, i64_w, i32_w]; rfl))
    refine take_ (i := 8) (N := some 40) (v := ?_) (a' := ?_) (msk 15 9) rfl rfl (by kernel_rfl) (fun _ _ _ h => h) (Or.inl ⟨by rfl, ?_⟩) hHeld ?_ ?_; rotate_left; (focus (rintro w' ⟨s0, s1, s2, s3, s4, s5, s6⟩; go_simp; with_reducible rfl)); rotate_left; (focus (simp only [Act.put, qzA, qzB, qzC, i64_w, i32_w]; rfl))
    refine pure_ (i := 9) (N := some 41) (v := ?_) (a' := ?_) (msk 15 10) rfl rfl (by kernel_rfl) (fun _ _ _ h => h) (Or.inl ⟨by rfl, ?_⟩) ?_ ?_; rotate_left; (focus (intro w'; go_simp; with_reducible rfl)); rotate_left; (focus (simp only [Act.put, qzA, qzB, qzC, i64_w, i32_w]; rfl))
    refine pure_ (i := 10) (N := some 42) (v := ?_) (a' := ?_) (msk 15 11) rfl rfl (by kernel_rfl) (fun _ _ _ h => h) (Or.inl ⟨by rfl, ?_⟩) ?_ ?_; rotate_left; (focus (intro w'; go_simp; with_reducible rfl)); rotate_left; (focus (simp only [Act.put, qzA, qzB, qzC, i64_w, i32_w]; rfl))
    refine pure_ (i := 11) (N := some 43) (v := ?_) (a' := ?_) (msk 15 12) rfl rfl (by kernel_rfl) (fun _ _ _ h => h) (Or.inl ⟨by rfl, ?_⟩) ?_ ?_; rotate_left; (focus (intro w'; go_simp; with_reducible rfl)); rotate_left; (focus (simp only [Act.put, qzA, qzB, qzC, i64_w, i32_w]; rfl))
    refine take_ (i := 12) (N := some 44) (v := ?_) (a' := ?_) (msk 15 13) rfl rfl (by kernel_rfl) (fun _ _ _ h => h) (Or.inl ⟨by rfl, ?_⟩) hHeld ?_ ?_; rotate_left; (focus (rintro w' ⟨s0, s1, s2, s3, s4, s5, s6⟩; go_simp; with_reducible rfl)); rotate_left; (focus (simp only [Act.put, qzA, qzB, qzC, i64_w, i32_w]; rfl))
    refine pure_ (i := 13) (N := some 45) (v := ?_) (a' := ?_) (msk 15 14) rfl rfl (by kernel_rfl) (fun _ _ _ h => h) (Or.inl ⟨by rfl, ?_⟩) ?_ ?_; rotate_left; (focus (intro w'; go_simp; with_reducible rfl)); rotate_left; (focus (simp only [Act.put, qzA, qzB, qzC, i64_w, i32_w]; rfl))
    refine last_ (i := 14) (N := none) (msk 15 15) rfl rfl (by kernel_rfl) (by decide) (fun K hK => ?_); refine skip_ (w1 := ?_) (by rfl) rfl ?_ ?_; rotate_left; (focus (go_simp; rfl)); refine hK.out _ _ ?_; clear hK K hHeld
    have hb5 := qai (j := 2) (v := .bool false) (qai (j := 1) (v := .int .i64 F.f1) (qai (j := 0) (v := .int .i64 L.f1.f1) HWD.out hge) hge) hge; have hbk5 := qba (qba (qba HBD.out 0 (.int .i64 L.f1.f1)) 1 (.int .i64 F.f1)) 2 (.bool false)
    generalize ((wd.setCell ⟨g, 0, none⟩ (.int .i64 L.f1.f1)).setCell ⟨g, 1, none⟩ (.int .i64 F.f1)).setCell ⟨g, 2, none⟩ (.bool false) = w5 at hb5 hbk5 ⊢
    have HW5 := qab.mk hb5; have HB5 := qab.mk hbk5; clear hb5 hbk5 HBD HWD f4 e0 e1 e2
    refine done_ (by kernel_rfl) ?_
    have hx : endL L l0_1 (j + 1) true = xs ++ [⟨L.f1.f1, F.f1, false⟩] := hsc
    have b0 : w5.cell? ⟨g, 0, none⟩ = some (.int .i64 (⟨L.f1.f1, F.f1, false⟩ : S44).f0) := qaa HB5.out 0; have b1 : w5.cell? ⟨g, 1, none⟩ = some (.int .i64 (⟨L.f1.f1, F.f1, false⟩ : S44).f1) := qaa HB5.out 1; have b2 : w5.cell? ⟨g, 2, none⟩ = some (.bool (⟨L.f1.f1, F.f1, false⟩ : S44).f2) := qaa HB5.out 2
    have HO5 := qab.mk (Kd.R_below HO.out HW5.out); have HBw := qab.mk (qad HBB.out HW5.out); have HBg := qab.mk (qag BKgb.out HW5.out)
    go_wp2_with ((with_reducible refine gate_builtin (b := .append) (xs := #[.tmp 46, .tmp 48]) rfl ?_); at_builtin; refine Kd.R_append k44 (w0 := w) w.heap.size rfl (.tmp 46) (.tmp 48) 27 44 (.agg #[.int .i64 0, .int .i64 0, .bool false]) 24 rfl Try.underlying27 info44 rfl (by decide) (by omega) u9 xs (⟨L.f1.f1, F.f1, false⟩ : S44) [.int .i64 (⟨L.f1.f1, F.f1, false⟩ : S44).f0, .int .i64 (⟨L.f1.f1, F.f1, false⟩ : S44).f1, .bool (⟨L.f1.f1, F.f1, false⟩ : S44).f2] (fun _ => True) (fun _ => False) rfl rfl ?aP (fun _ hk => hk.elim) ?aF ?aO ?aB ?aS ?aL ?_; (case aP => exact k44_mkM _ _ _ _); (case aF => exact (fun _ _ => trivial)); (case aO => exact HO5.out); (case aB => exact HBw.out); (case aS => exact HBw.out.size); (case aL => omega); intro v6 w6 ho hB hg hat)
    have hbe := blk_grown HBg.out hg (Kd.R_ne HO5.out HBg.out (by decide))
    have HBE := qab.mk hbe
    have HFO := qab.mk ho
    have HFB := qab.mk hB
    clear ho hB hg hat hbe
    go_roundw
    case rel => exact ⟨j + 1, _, by omega, rfl, by go_num, ⟨by rw [hx]; exact HFO.out⟩, HBE, HFB⟩
    case measure => simp [intOf]; omega
   | false =>
    have hx : endL L l0_1 (j + 1) false = xs ++ [⟨L.f1.f0, F.f0, false⟩] := hsc
    have b0 : w4.cell? ⟨g, 0, none⟩ = some (.int .i64 (⟨L.f1.f0, F.f0, false⟩ : S44).f0) := qaa HB4.out 0; have b1 : w4.cell? ⟨g, 1, none⟩ = some (.int .i64 (⟨L.f1.f0, F.f0, false⟩ : S44).f1) := qaa HB4.out 1; have b2 : w4.cell? ⟨g, 2, none⟩ = some (.bool (⟨L.f1.f0, F.f0, false⟩ : S44).f2) := qaa HB4.out 2
    have HO5 := qab.mk (Kd.R_below HO.out HW4.out); have HBw := qab.mk (qad HBB.out HW4.out); have HBg := qab.mk (qag BKgb.out HW4.out)
    go_wp2_with ((with_reducible refine gate_builtin (b := .append) (xs := #[.tmp 46, .tmp 48]) rfl ?_); at_builtin; refine Kd.R_append k44 (w0 := w) w.heap.size rfl (.tmp 46) (.tmp 48) 27 44 (.agg #[.int .i64 0, .int .i64 0, .bool false]) 24 rfl Try.underlying27 info44 rfl (by decide) (by omega) u9 xs (⟨L.f1.f0, F.f0, false⟩ : S44) [.int .i64 (⟨L.f1.f0, F.f0, false⟩ : S44).f0, .int .i64 (⟨L.f1.f0, F.f0, false⟩ : S44).f1, .bool (⟨L.f1.f0, F.f0, false⟩ : S44).f2] (fun _ => True) (fun _ => False) rfl rfl ?aP (fun _ hk => hk.elim) ?aF ?aO ?aB ?aS ?aL ?_; (case aP => exact k44_mkM _ _ _ _); (case aF => exact (fun _ _ => trivial)); (case aO => exact HO5.out); (case aB => exact HBw.out); (case aS => exact HBw.out.size); (case aL => omega); intro v6 w6 ho hB hg hat)
    have hbe := blk_grown HBg.out hg (Kd.R_ne HO5.out HBg.out (by decide))
    have HBE := qab.mk hbe
    have HFO := qab.mk ho
    have HFB := qab.mk hB
    clear ho hB hg hat hbe
    go_roundw
    case rel => exact ⟨j + 1, _, by omega, rfl, by go_num, ⟨by rw [hx]; exact HFO.out⟩, HBE, HFB⟩
    case measure => simp [intOf]; omega
  ·
   obtain rfl : j = N := by omega
   have hd : decide ((j : Int) < j) = false := decide_eq_false (by omega)
   go_wp2_with fail
   go_ret
   exact ⟨_, rfl, HO.out, HBB.out⟩
structure WMI (w : World) (gb g6 g7 : Nat) (nb : Array Value) (L : S39) (W : World) : Prop where
 b : W.heap[gb]? = some (.cells nb 26 (0, 0))
 r : W.heap[g6]? = some (.cells #[.int .i64 0, .int .i64 0] 37 (0, 0))
 l : W.heap[g7]? = some (.cells #[.int .i64 L.f0.f0, .int .i64 L.f0.f1, .int .i64 L.f1.f0, .int .i64 L.f1.f1, .int .i64 L.f2.f0, .int .i64 L.f2.f1, .int .i64 L.f3, .int .i64 L.f4, .int .i64 L.f5, .int .i64 L.f6, .int .i64 L.f7.f0, .int .i64 L.f7.f1] 39 (0, 0))
 hb : Below w.heap.size w W
 ge : w.heap.size ≤ g6
theorem WMI.below {w W W' : World} {gb g6 g7 : Nat} {nb : Array Value} {L : S39} (h : WMI w gb g6 g7 nb L W) (hb : Below W.heap.size W W') : WMI w gb g6 g7 nb L W' := ⟨qag h.b hb, qag h.r hb, qag h.l hb, qad h.hb hb, h.ge⟩
end Go.Proofs.Ytipphcjgdebecaa.PA
namespace Go.Proofs.Ytipphcjgdebecaa.PA
open Go.RowKit Go.Shelf Go.Proofs.YtipphcjgdebecaaW.PrintWords Go.Proofs.YtipphcjgdebecaaW.PrintLast Go.Proofs.YtipphcjgdebecaaW.PrintMore
attribute [local go_sem] qaw qay max_two min_two qas qat qax qaz
def cold (k c w : Int) : Int := w - min w (k * (w + c) / 1000)
theorem cold_bd {k c w : Int} (k0 : 0 ≤ k) (c0 : 0 ≤ c) (w0 : 0 ≤ w) : 0 ≤ cold k c w ∧ cold k c w ≤ w := by
 have h : 0 ≤ k * (w + c) := Int.mul_nonneg k0 (by omega)
 unfold cold
 omega
theorem loss_tdiv {k c w : Int} (k0 : 0 ≤ k) (k1 : k ≤ 1000) (c0 : 0 ≤ c) (c1 : c ≤ 1000) (w0 : 0 ≤ w) (w1 : w ≤ 1000) : wrap64 (Int.tdiv (wrap64 (k * wrap64 (w + c))) 1000) = k * (w + c) / 1000 ∧ 0 ≤ k * (w + c) / 1000 ∧ k * (w + c) / 1000 ≤ 2000 := by
 obtain ⟨p0, p1⟩ := mul_small k0 k1 (b := w + c) (B := 2000) (by omega) (by omega)
 rw [wrap_id (x := w + c) (by omega) (by omega), wrap_id (x := k * (w + c)) (by omega) (by omega), Int.tdiv_eq_ediv_of_nonneg p0, wrap_id (by omega) (by omega)]
 exact ⟨rfl, by omega, by omega⟩
theorem cold_prog {k c w : Int} (k0 : 0 ≤ k) (k1 : k ≤ 1000) (c0 : 0 ≤ c) (c1 : c ≤ 1000) (w0 : 0 ≤ w) (w1 : w ≤ 1000) : wrap64 (w - lossV k c w) = cold k c w := by
 obtain ⟨e, d0, d1⟩ := loss_tdiv k0 k1 c0 c1 w0 w1
 have hl : lossV k c w = min (k * (w + c) / 1000) w := by
  show mn (wrap64 (Int.tdiv (wrap64 (k * (wrap64 (w + c)))) 1000)) (wrap64 (w + 0)) = _
  rw [e, mn_min, wrap_id (x := w + 0) (by omega) (by omega), Int.add_zero]
 rw [hl]
 unfold cold
 rw [wrap_id (by omega) (by omega)]
 omega
theorem cold_ref {L : S39} {T : S44} {x : Heat4} (hf : T.f2 = false) (k0 : 0 ≤ T.f0) (k1 : T.f0 ≤ 1000) (c0 : 0 ≤ T.f1) (c1 : T.f1 ≤ 1000) (w0 : 0 ≤ x.1) (w1 : x.1 ≤ 1000) : (stepR L T x).1 = cold T.f0 T.f1 x.1 := by
 obtain ⟨e, d0, d1⟩ := loss_tdiv k0 k1 c0 c1 w0 w1
 have hz : feedV L T = 0 := by unfold feedV; rw [hf]; rfl
 have hl : lossR L x.1 T = min x.1 (T.f0 * (x.1 + T.f1) / 1000) := by
  unfold lossR
  rw [e, hf, if_neg (by decide), mn_min]
 show wrap64 (wrap64 (x.1 + feedV L T) - lossR L x.1 T) = _
 rw [hz, hl, wrap_id (x := x.1 + 0) (by omega) (by omega), wrap_id (by omega) (by omega)]
 unfold cold
 omega
def Unfed (T : S44) : Prop := T.f2 = false ∧ 0 ≤ T.f0 ∧ T.f0 ≤ 1000 ∧ 0 ≤ T.f1 ∧ T.f1 ≤ 1000
def coldL (w : Int) (l : List S44) : Int := l.foldl (fun x T => cold T.f0 T.f1 x) w
theorem coldL_bd : ∀ (l : List S44) (w : Int), (∀ T ∈ l, Unfed T) → 0 ≤ w → 0 ≤ coldL w l ∧ coldL w l ≤ w
 | [], w, _, h0 => ⟨h0, Int.le_refl _⟩
 | T :: t, w, h, h0 => by
  have hT := h T (by simp)
  have h1 := cold_bd hT.2.1 hT.2.2.2.1 h0
  have h2 := coldL_bd t (cold T.f0 T.f1 w) (fun x hx => h x (by simp [hx])) h1.1
  show 0 ≤ coldL (cold T.f0 T.f1 w) t ∧ coldL (cold T.f0 T.f1 w) t ≤ w
  omega
theorem play_cold (L : S39) : ∀ (l : List S44) (x : Heat4), (∀ T ∈ l, Unfed T) → 0 ≤ x.1 → x.1 ≤ 1000 → (l.foldl (fun x T => stepR L T x) x).1 = coldL x.1 l
 | [], x, _, _, _ => rfl
 | T :: t, x, h, h0, h1 => by
  have hT := h T (by simp)
  have e := cold_ref (L := L) (x := x) hT.1 hT.2.1 hT.2.2.1 hT.2.2.2.1 hT.2.2.2.2 h0 h1
  have hb := cold_bd hT.2.1 hT.2.2.2.1 h0
  rw [List.foldl_cons, play_cold L t _ (fun y hy => h y (by simp [hy])) (by rw [e]; omega) (by rw [e]; omega), e]
  rfl
theorem rdT37_at (l1 : List S37) (h : Nat) (hh : h < l1.length) : rd_T37 l1 (h : Int) = l1[h] := by simp [rd_T37, hh]
theorem frost_at {l0 : List S39} {l1 : List S37} {l2 : List (List Int)} (hN : NetOk l0 l1 l2) (h : Nat) (hh : h < l1.length) : 0 ≤ (rd_T37 l1 (h : Int)).f0 ∧ (rd_T37 l1 (h : Int)).f0 ≤ (rd_T37 l1 (h : Int)).f1 ∧ (rd_T37 l1 (h : Int)).f1 ≤ 1000 := by
 rw [rdT37_at l1 h hh]
 exact hN.frost _ (List.getElem_mem hh)
theorem endL_unfed {l0 : List S39} {l1 : List S37} {l2 : List (List Int)} (hN : NetOk l0 l1 l2) {L : S39} (hL : LoopOk L) (n : Nat) (hn : n ≤ l1.length) (most : Bool) : ∀ T ∈ endL L l1 n most, Unfed T := by
 intro T hT
 unfold endL at hT
 simp only [List.mem_map, List.mem_range] at hT
 obtain ⟨h, hh, rfl⟩ := hT
 have hf := frost_at hN h (by omega)
 have k0 := hL.k0
 have k1 := hL.k1
 have k2 := hL.k2
 unfold Unfed
 cases most <;> simp <;> omega
theorem end_eq {l0 : List S39} {l1 : List S37} {l2 : List (List Int)} (i : Int) (i0 : 0 ≤ i) (i1 : i < l0.length) (n : Nat) (hn : n ≤ l1.length) (h1 : l1.length ≤ 1000) (most : Bool) : talikref04_End.f l0 l1 l2 i (n : Int) most = some (endL (qal l0 i) l1 n most) := by
 unfold talikref04_End.f
 rw [if_pos ⟨i0, i1, by omega, by omega, h1⟩, Int.toNat_natCast]
def lowW (L : S39) (l1 : List S37) (n : Nat) : Int := coldL L.f0.f0 (endL L l1 n true)
def highW (L : S39) (l1 : List S37) (n : Nat) : Int := coldL L.f0.f1 (endL L l1 n false)
theorem low_bd {l0 : List S39} {l1 : List S37} {l2 : List (List Int)} (hN : NetOk l0 l1 l2) {L : S39} (hL : LoopOk L) (n : Nat) (hn : n ≤ l1.length) : 0 ≤ lowW L l1 n ∧ lowW L l1 n ≤ 1000 := by
 have h := coldL_bd _ L.f0.f0 (endL_unfed hN hL n hn true) (by have := hL.w0; omega)
 have := hL.w1
 have := hL.w2
 unfold lowW
 omega
theorem high_bd {l0 : List S39} {l1 : List S37} {l2 : List (List Int)} (hN : NetOk l0 l1 l2) {L : S39} (hL : LoopOk L) (n : Nat) (hn : n ≤ l1.length) : 0 ≤ highW L l1 n ∧ highW L l1 n ≤ 1000 := by
 have h := coldL_bd _ L.f0.f1 (endL_unfed hN hL n hn false) (by have := hL.w0; have := hL.w1; omega)
 have := hL.w2
 unfold highW
 omega
theorem coldL_append (w : Int) (l : List S44) (T : S44) : coldL w (l ++ [T]) = cold T.f0 T.f1 (coldL w l) := by simp [coldL]
theorem low_succ (L : S39) (l1 : List S37) (n : Nat) : lowW L l1 (n + 1) = cold L.f1.f1 (rd_T37 l1 n).f1 (lowW L l1 n) := by
 unfold lowW
 rw [endL_succ, coldL_append]
 rfl
theorem high_succ (L : S39) (l1 : List S37) (n : Nat) : highW L l1 (n + 1) = cold L.f1.f0 (rd_T37 l1 n).f0 (highW L l1 n) := by
 unfold highW
 rw [endL_succ, coldL_append]
 rfl
theorem bitB_zero (i : Int) : bitB 0 i = false := by
 unfold bitB
 rw [Int.zero_ediv]
 rfl
theorem warmth_at {l0 : List S39} {l1 : List S37} {l2 : List (List Int)} (hN : NetOk l0 l1 l2) (i : Int) (i0 : 0 ≤ i) (i1 : i < l0.length) :
  ∀ n : Nat, n ≤ l1.length → wAt (fun h x => leastV l0 l1 0 i h x) (qal l0 i).f0.f0 n = lowW (qal l0 i) l1 n ∧ wAt (fun h x => greatestV l0 l1 0 i h x) (qal l0 i).f0.f1 n = highW (qal l0 i) l1 n := by
 have hL := hN.loops _ (rdT39_mem i0 i1)
 have k0 := hL.k0
 have k1 := hL.k1
 have k2 := hL.k2
 intro n
 induction n with
 | zero => intro _; exact ⟨rfl, rfl⟩
 | succ n ih =>
  intro hn
  obtain ⟨h1, h2⟩ := ih (by omega)
  have hf := frost_at hN n (by omega)
  have hl := low_bd hN hL n (by omega)
  have hh := high_bd hN hL n (by omega)
  rw [low_succ, high_succ]
  refine ⟨?_, ?_⟩
  ·
   show leastV l0 l1 0 i n (wAt (fun h x => leastV l0 l1 0 i h x) (qal l0 i).f0.f0 n) = _
   rw [h1]
   unfold leastV
   rw [bitB_zero]
   exact cold_prog (by show 0 ≤ (qal l0 i).f1.f1; omega) k2 (by omega) hf.2.2 hl.1 hl.2
  ·
   show greatestV l0 l1 0 i n (wAt (fun h x => greatestV l0 l1 0 i h x) (qal l0 i).f0.f1 n) = _
   rw [h2]
   unfold greatestV
   rw [bitB_zero]
   exact cold_prog k0 (by show (qal l0 i).f1.f0 ≤ 1000; omega) hf.1 (by omega) hh.1 hh.2
def rowW (L : S39) (l1 : List S37) (n : Nat) : List S37 := (List.range n).map fun h => ⟨lowW L l1 (h + 1), highW L l1 (h + 1)⟩
theorem rowW_length (L : S39) (l1 : List S37) (n : Nat) : (rowW L l1 n).length = n := by simp [rowW]
theorem warmthV_eq {l0 : List S39} {l1 : List S37} {l2 : List (List Int)} (hN : NetOk l0 l1 l2) (i : Int) (i0 : 0 ≤ i) (i1 : i < l0.length) : warmthV l0 l1 0 i = rowW (qal l0 i) l1 l1.length := by
 unfold warmthV rowW
 refine List.map_congr_left fun h hh => ?_
 have h1 := warmth_at hN i i0 i1 (h + 1) (by have := List.mem_range.1 hh; omega)
 rw [h1.1, h1.2]
end Go.Proofs.Ytipphcjgdebecaa.PA
namespace Go.Proofs.Ytipphcjgdebecaa.PA
open Go.RowKit Go.Proofs.YtipphcjgdebecaaW.PrintWords Go.Proofs.YtipphcjgdebecaaW.PrintLast Go.Proofs.YtipphcjgdebecaaW.PrintMore
attribute [local go_sem] qaw qay max_two min_two qas qat qax qaz
end Go.Proofs.Ytipphcjgdebecaa.PA
namespace Go.Proofs.Ytipphcjgdebecaa.PA
open Go.RowKit Go.Shelf Go.Proofs.YtipphcjgdebecaaW.PrintWords Go.Proofs.YtipphcjgdebecaaW.PrintLast Go.Proofs.YtipphcjgdebecaaW.PrintMore
attribute [local go_sem] qaw qay max_two min_two qas qat qax qaz
section
variable {l0 : List S39} {l1 : List S37} {l2 : List (List Int)}
theorem truth_of {L : S39} : ∀ (t : List S44) (l1 : List S37), t.length ≤ l1.length → (∀ k (h : k < t.length) (h1 : k < l1.length), inB t[k].f0 L.f1.f0 L.f1.f1 = true ∧ inB t[k].f1 l1[k].f0 l1[k].f1 = true) → truthB L t l1 = true
 | [], l1, _, _ => by cases l1 <;> rfl
 | T :: ts, [], h, _ => by simp at h
 | T :: ts, F :: fs, h, hp => by
  have h0 := hp 0 (by simp) (by simp)
  simp only [List.getElem_cons_zero] at h0
  have ih := truth_of ts fs (by simpa using h) (fun k hk h1 => by
   have := hp (k + 1) (by simpa using hk) (by simpa using h1)
   simpa using this)
  simp only [truthB, h0.1, h0.2, ih, Bool.and_self]
theorem inB_of {x a b : Int} (h0 : a ≤ x) (h1 : x ≤ b) : inB x a b = true := by
 unfold inB
 simp [h0, h1]
theorem endL_truth (hN : NetOk l0 l1 l2) {L : S39} (hL : LoopOk L) (n : Nat) (hn : n ≤ l1.length) (most : Bool) : truthB L (endL L l1 n most) l1 = true := by
 refine truth_of _ _ (by rw [endL_length]; exact hn) (fun k h h1 => ?_)
 have hf := hN.frost _ (List.getElem_mem h1)
 have k1 := hL.k1
 have e := rdT37_at l1 k h1
 cases most
 ·
  have : (endL L l1 n false)[k] = ⟨L.f1.f0, (rd_T37 l1 k).f0, false⟩ := by simp [endL]
  rw [this, e]
  exact ⟨inB_of (Int.le_refl _) k1, inB_of (Int.le_refl _) hf.2.1⟩
 ·
  have : (endL L l1 n true)[k] = ⟨L.f1.f1, (rd_T37 l1 k).f1, false⟩ := by simp [endL]
  rw [this, e]
  exact ⟨inB_of k1 (Int.le_refl _), inB_of hf.2.1 (Int.le_refl _)⟩
theorem play_unfed (hv : validB l0 l1 l2 = true) (i : Int) (i0 : 0 ≤ i) (i1 : i < l0.length) (w : Int) (w0 : (qal l0 i).f0.f0 ≤ w) (w1 : w ≤ (qal l0 i).f0.f1) (t : List S44) (hl : t.length ≤ l1.length) (ht : truthB (qal l0 i) t l1 = true) (hu : ∀ T ∈ t, Unfed T) :
  ∃ b g s, playV l0 l1 l2 i w t = (coldL w t, b, g, s, 0) := by
 have hN := net_ok hv
 have hh := hN.h1
 have hL := hN.loops _ (rdT39_mem i0 i1)
 have hi := (isloop_iff hN i).2 ⟨i0, i1⟩
 have x0 := hL.w0
 have x2 := hL.w2
 obtain ⟨hg, _⟩ := playGo_yes _ hL t l1 (w, 0, 0, 0) 0 ht hN.frost (by omega) ⟨by dsimp only; omega, by dsimp only; omega, by dsimp only; omega, by dsimp only; omega, by dsimp only; omega, by dsimp only; omega, by dsimp only; omega, by dsimp only; omega⟩
 have hp := play_cold (qal l0 i) t (w, 0, 0, 0) hu (by dsimp only; omega) (by dsimp only; omega)
 refine ⟨(t.foldl (fun x T => stepR (qal l0 i) T x) (w, 0, 0, 0)).2.1, (t.foldl (fun x T => stepR (qal l0 i) T x) (w, 0, 0, 0)).2.2.1, (t.foldl (fun x T => stepR (qal l0 i) T x) (w, 0, 0, 0)).2.2.2, ?_⟩
 unfold playV
 rw [if_neg (by omega), hv, hi, inB_of w0 w1, hg]
 simp only [Bool.and_self, if_true, heatR]
 rw [hp]
theorem rowW_at (L : S39) (l1 : List S37) (n k : Nat) (hk : k < (rowW L l1 n).length) : (rowW L l1 n)[k] = ⟨lowW L l1 (k + 1), highW L l1 (k + 1)⟩ := by simp [rowW]
end
end Go.Proofs.Ytipphcjgdebecaa.PA
namespace Go.Proofs.Ytipphcjgdebecaa.PA
open Go.RowKit Go.Proofs.YtipphcjgdebecaaW.PrintWords Go.Proofs.YtipphcjgdebecaaW.PrintLast Go.Proofs.YtipphcjgdebecaaW.PrintMore
attribute [local go_sem] qaw qay max_two min_two qas qat qax qaz
def pipe_Warmth.l0 : Nat → List (List (S37)) → Int → Int → List (S39) → List (S37) → List (List Int) → Option ((List (List (S37))) × Int)
 | 0, _, _, _, _, _, _ => none
 | k + 1, x4, x11, x12, x512000, x512001, x512002 => if x12 < x11 then ((pipe_net_warmth.f x512000 x512001 x512002 0 x12).bind fun t513 => (if x4.length < 5864062014805 then (pipe_Warmth.l0 k (x4 ++ [t513]) x11 (wrap64 (x12 + 1)) x512000 x512001 x512002) else (none))) else (some (x4, 0))
def pipe_Warmth.f (k : Nat) (l0_0 : List (S39)) (l0_1 : List (S37)) (l0_2 : List (List Int)) : Option ((List (List (S37))) × Int) := (pipe_valid.f l0_0 l0_1 l0_2).bind fun t512 => (if t512 = true then (pipe_Warmth.l0 k ([] : List (List (S37))) (l0_0.length : Int) 0 l0_0 l0_1 l0_2) else (some (([] : List (List (S37))), 2)))
theorem pipe_Warmth.calls (k : Nat) (A0_0 : Option Addr) (c0_0 : Nat) (l0_0 : List (S39)) (A0_1 : Option Addr) (c0_1 : Nat) (l0_1 : List (S37)) (A0_2 : Option Addr) (c0_2 : Nat) (l0_2 : List (List Int)) (r1 : List (List (S37))) (r2 : Int) (w : World) (hr0_0 : Kd.C k39 w A0_0 l0_0.length l0_0) (hc0_0 : l0_0.length ≤ c0_0) (hr0_1 : Kd.C k37 w A0_1 l0_1.length l0_1) (hc0_1 : l0_1.length ≤ c0_1) (hr0_2 : Kd.C (Kd.slice 3 (Kd.int .i64)) w A0_2 l0_2.length l0_2) (hc0_2 : l0_2.length ≤ c0_2) (h : pipe_Warmth.f k l0_0 l0_1 l0_2 = some (r1, r2)) :
  Calls Try.prog 47 #[.agg #[.slice A0_0 l0_0.length c0_0, .slice A0_1 l0_1.length c0_1, .slice A0_2 l0_2.length c0_2]] w fun e w' => ∃ v0_ : Value, e = .returned (.tuple #[v0_, .int .i64 r2]) ∧ Kd.S (Kd.slice 37 k37) 23 w' w.heap.size (fun _ => True) v0_ r1 ∧ Below w.heap.size w w' := by
 have hu26 := Try.underlying26
 have hu99 := Try.underlying99
 have HR0_0 := qab.mk hr0_0
 have HC0_0 := qab.mk hc0_0
 clear hr0_0 hc0_0
 have HR0_1 := qab.mk hr0_1
 have HC0_1 := qab.mk hc0_1
 clear hr0_1 hc0_1
 have HR0_2 := qab.mk hr0_2
 have HC0_2 := qab.mk hc0_2
 clear hr0_2 hc0_2
 have HB := qab.mk (Below.refl w.heap.size w)
 have H : ((pipe_valid.f l0_0 l0_1 l0_2).bind fun t512 => (if t512 = true then (pipe_Warmth.l0 k ([] : List (List (S37))) (l0_0.length : Int) 0 l0_0 l0_1 l0_2) else (some (([] : List (List (S37))), 2)))) = some (r1, r2) := h
 clear h
 replace H := Option.bind_eq_some_iff.mp H
 obtain ⟨t512, A20, H⟩ := H
 replace H : (if t512 = true then (pipe_Warmth.l0 k ([] : List (List (S37))) (l0_0.length : Int) 0 l0_0 l0_1 l0_2) else (some (([] : List (List (S37))), 2))) = some (r1, r2) := H
 have A2 := qab.mk A20
 clear A20
 by_cases c3 : t512 = true
 ·
  subst c3
  have H1 : (pipe_Warmth.l0 k ([] : List (List (S37))) (l0_0.length : Int) 0 l0_0 l0_1 l0_2) = some (r1, r2) := by rw [if_pos rfl] at H; exact H
  clear H
  have H := H1
  clear H1
  have H' := qab.mk H
  clear H
  go_enter Try.func47, Try.ntmps47
  go_wp2_with (first | ((with_reducible refine qan (N := 1) rfl ?_); refine qam ?hg (N := 1) ?hd (cs := #[.slice A0_0 l0_0.length c0_0, .slice A0_1 l0_1.length c0_1, .slice A0_2 l0_2.length c0_2]) (t := 26) ?hr ?_; (case hd => rfl); (case hg => rfl); (case hr => first | (go_simp; done) | (go_simp; rfl)); intro gb511 hg w4 hbox hb; have n0_ := qab.mk (qad (by repeat (first | (with_reducible first | exact HB.out | apply qaf | apply qae | apply qah) | exact HB.out)) hb); have n1_ := qab.mk (hbox); have n2_ := qab.mk ((by rw [hg]; exact (qap (by repeat (first | (with_reducible first | exact HB.out | apply qaf | apply qae | apply qah) | exact HB.out))) : w.heap.size ≤ gb511)); have n3_ := qab.mk ((by rw [hg]; exact (qap (by repeat (first | (with_reducible first | exact HB.out | apply qaf | apply qae | apply qah) | exact HB.out))) : w.heap.size ≤ gb511)); clear HB; have HB := n0_; have BK511 := n1_; have GW511 := n2_; have GE511 := n3_; clear n0_ n1_ n2_ n3_; clear hb hbox hg; have hcz5_0 : w4.cell? ⟨gb511, 0, none⟩ = some (.slice A0_0 l0_0.length c0_0) := (qaa BK511.out 0).trans rfl; have hcz5_1 : w4.cell? ⟨gb511, 1, none⟩ = some (.slice A0_1 l0_1.length c0_1) := (qaa BK511.out 1).trans rfl; have hcz5_2 : w4.cell? ⟨gb511, 2, none⟩ = some (.slice A0_2 l0_2.length c0_2) := (qaa BK511.out 2).trans rfl; have hfz5_0 := qac BK511.out 0; have hfz5_1 := qac BK511.out 1; have hfz5_2 := qac BK511.out 2) | ((with_reducible refine gate_callee (f := 54) rfl ?_); refine goesL_ (some 7) rfl rfl Try.func54 (by kernel_rfl) rfl #[.agg #[.slice A0_0 l0_0.length c0_0, .slice A0_1 l0_1.length c0_1, .slice A0_2 l0_2.length c0_2]] rfl (by (try simp only [List.map_toArray, List.map_cons, List.map_nil]); first | done | rfl | (simp only [List.length_drop, List.length_take]; rfl)) ?_; (with_reducible refine (pipe_valid.calls _ _ l0_0 _ _ l0_1 _ _ l0_2 true _ ?side1 ?side2 ?side3 ?side4 ?side5 ?side6 A2.out).mono ?_); (case side1 => repeat (first | exact (Kd.qaj HR0_0.out HB.out) | (with_reducible refine Kd.C_alloc ?_ _) | (with_reducible refine Kd.C_drewN ?_ _) | (with_reducible refine Kd.C_drew ?_))); (case side2 => exact HC0_0.out); (case side3 => repeat (first | exact (Kd.qaj HR0_1.out HB.out) | (with_reducible refine Kd.C_alloc ?_ _) | (with_reducible refine Kd.C_drewN ?_ _) | (with_reducible refine Kd.C_drew ?_))); (case side4 => exact HC0_1.out); (case side5 => repeat (first | exact (Kd.qaj HR0_2.out HB.out) | (with_reducible refine Kd.C_alloc ?_ _) | (with_reducible refine Kd.C_drewN ?_ _) | (with_reducible refine Kd.C_drew ?_))); (case side6 => exact HC0_2.out); rintro e w6 ⟨rfl, hb⟩; refine ⟨_, rfl, ?_⟩; have n0_ := qab.mk (qag (g := gb511) (o := .cells #[.slice A0_0 l0_0.length c0_0, .slice A0_1 l0_1.length c0_1, .slice A0_2 l0_2.length c0_2] 26 (0, 0)) (by (with_reducible repeat (first | refine qao ?_ _ | refine qaq ?_ | refine qak ?_ _)); exact BK511.out) hb); have n1_ := qab.mk (qad (by repeat (first | (with_reducible first | exact HB.out | apply qaf | apply qae | apply qah | refine qai ?_ GE511.out) | exact HB.out)) hb); clear BK511; clear HB; have BK511 := n0_; have HB := n1_; clear n0_ n1_; (try clear hb); (try clear hb2); (try clear hk); (try clear hi); have hcz7_0 : w6.cell? ⟨gb511, 0, none⟩ = some (.slice A0_0 l0_0.length c0_0) := (qaa BK511.out 0).trans rfl; have hcz7_1 : w6.cell? ⟨gb511, 1, none⟩ = some (.slice A0_1 l0_1.length c0_1) := (qaa BK511.out 1).trans rfl; have hcz7_2 : w6.cell? ⟨gb511, 2, none⟩ = some (.slice A0_2 l0_2.length c0_2) := (qaa BK511.out 2).trans rfl; have hfz7_0 := qac BK511.out 0; have hfz7_1 := qac BK511.out 1; have hfz7_2 := qac BK511.out 2))
  go_loopg [4, 12] k (fun kq v4 v12 w' => ∃ (x4_1 : List (List (S37))) (x12_1 : Int), v12 = .int .i64 x12_1 ∧ qab (pipe_Warmth.l0 kq x4_1 (l0_0.length : Int) x12_1 l0_0 l0_1 l0_2 = some (r1, r2)) ∧ qab (kq ≤ k) ∧ qab (Kd.S (Kd.slice 37 k37) 23 w' w.heap.size (fun _ => True) v4 x4_1) ∧ qab (w'.heap[gb511]? = some (.cells #[(.slice A0_0 l0_0.length c0_0), (.slice A0_1 l0_1.length c0_1), (.slice A0_2 l0_2.length c0_2)] 26 (0, 0))) ∧ qab (Below w.heap.size w w'))
  case atStart => exact ⟨(([] : List (List (S37)))), (0), (by first | rfl | (simp; done) | (simp [*]; done)), H', ⟨Nat.le_refl _⟩, ⟨by first | exact Kd.S_nil _ _ _ _ _ | exact Kd.N_nil _ _ _ _ _ | exact Kd.V_nil _ _ _ _ _ | exact Kd.Q_nil _ _ _ _ _ | exact Kd.R_nil _ _ _ _ _⟩, ⟨by (with_reducible repeat (first | refine qao ?_ _ | refine qaq ?_ | refine qak ?_ _)); exact BK511.out⟩, ⟨by repeat (first | (with_reducible first | exact HB.out | apply qaf | apply qae | apply qah | refine qai ?_ GE511.out) | exact HB.out)⟩⟩
  case round =>
   clear H'
   try clear p2
   try clear c3
   try clear c4
   try clear c5
   try clear hcz5_0
   try clear hcz5_1
   try clear hcz5_2
   try clear hcz7_0
   try clear hcz7_1
   try clear hcz7_2
   try clear hfz5_0
   try clear hfz5_1
   try clear hfz5_2
   try clear hfz7_0
   try clear hfz7_1
   try clear hfz7_2
   obtain ⟨x4_1, x12_1, rfl, HA, HK1, HO_4, BK511, HB⟩ := hrel
   cases gk with
   | zero => exact absurd HA.out (by simp [pipe_Warmth.l0])
   | succ k1 =>
    have H := HA.out
    clear HA
    simp only [pipe_Warmth.l0] at H
    by_cases c8 : x12_1 < (l0_0.length : Int)
    ·
     rw [if_pos c8] at H
     have c8b0 : decide (x12_1 < (l0_0.length : Int)) = true := decide_eq_true c8
     clear c8
     replace H := Option.bind_eq_some_iff.mp H
     obtain ⟨t513, A90, H⟩ := H
     replace H : (if x4_1.length < 5864062014805 then (pipe_Warmth.l0 k1 (x4_1 ++ [t513]) (l0_0.length : Int) (wrap64 (x12_1 + 1)) l0_0 l0_1 l0_2) else (none)) = some (r1, r2) := H
     have A9 := qab.mk A90
     clear A90
     by_cases c10 : x4_1.length < 5864062014805
     ·
      rw [if_pos c10] at H
      have LMc10 := qab.mk c10
      clear c10
      obtain ⟨y516, hy516⟩ : ∃ y_ : List (List (S37)), y_ = (x4_1 ++ [t513]) := ⟨_, rfl⟩
      replace H : (pipe_Warmth.l0 k1 y516 (l0_0.length : Int) (wrap64 (x12_1 + 1)) l0_0 l0_1 l0_2) = some (r1, r2) := by first | (rw [hy516]; with_reducible exact H) | (have H2_ := (Option.bind_some _ _).symm.trans H; rw [hy516]; with_reducible exact H2_) | (have H2_ := (Option.bind_some _ _).symm.trans H; with_reducible exact H2_) | with_reducible exact H | (rw [hy516]; exact H) | exact H
      have Ny516 := qab.mk hy516
      clear hy516
      have H' := qab.mk H
      clear H
      have hcz11_0 : wr.cell? ⟨gb511, 0, none⟩ = some (.slice A0_0 l0_0.length c0_0) := (qaa BK511.out 0).trans rfl
      have hcz11_1 : wr.cell? ⟨gb511, 1, none⟩ = some (.slice A0_1 l0_1.length c0_1) := (qaa BK511.out 1).trans rfl
      have hcz11_2 : wr.cell? ⟨gb511, 2, none⟩ = some (.slice A0_2 l0_2.length c0_2) := (qaa BK511.out 2).trans rfl
      have hfz11_0 := qac BK511.out 0
      have hfz11_1 := qac BK511.out 1
      have hfz11_2 := qac BK511.out 2
      go_wp2_with (first | ((with_reducible refine gate_callee (f := 79) rfl ?_); refine goesL_ (some 19) rfl rfl Try.func79 (by kernel_rfl) rfl #[.agg #[.slice A0_0 l0_0.length c0_0, .slice A0_1 l0_1.length c0_1, .slice A0_2 l0_2.length c0_2, .int .i64 0], .int .i64 x12_1] rfl (by (try simp only [List.map_toArray, List.map_cons, List.map_nil]); first | done | rfl | (simp only [List.length_drop, List.length_take]; rfl)) ?_; (with_reducible refine (pipe_net_warmth.calls _ _ l0_0 _ _ l0_1 _ _ l0_2 0 x12_1 t513 _ ?side1 ?side2 ?side3 ?side4 ?side5 ?side6 A9.out).mono ?_); (case side1 => repeat (first | exact (Kd.qaj HR0_0.out HB.out) | (with_reducible refine Kd.C_alloc ?_ _) | (with_reducible refine Kd.C_drewN ?_ _) | (with_reducible refine Kd.C_drew ?_))); (case side2 => exact HC0_0.out); (case side3 => repeat (first | exact (Kd.qaj HR0_1.out HB.out) | (with_reducible refine Kd.C_alloc ?_ _) | (with_reducible refine Kd.C_drewN ?_ _) | (with_reducible refine Kd.C_drew ?_))); (case side4 => exact HC0_1.out); (case side5 => repeat (first | exact (Kd.qaj HR0_2.out HB.out) | (with_reducible refine Kd.C_alloc ?_ _) | (with_reducible refine Kd.C_drewN ?_ _) | (with_reducible refine Kd.C_drew ?_))); (case side6 => exact HC0_2.out); rintro e w12 ⟨v514, rfl, ho0, hb⟩; refine ⟨_, rfl, ?_⟩; have n0_ := qab.mk (Kd.S_elder' (by (with_reducible repeat (first | apply Kd.S_alloc | apply Kd.S_drewN | apply Kd.S_drew)); exact HO_4.out) (Kd.R_base ho0) hb); have n1_ := qab.mk (Kd.R_lower ho0 (qap (by repeat (first | (with_reducible first | exact HB.out | apply qaf | apply qae | apply qah | refine qai ?_ GE511.out) | exact HB.out)))); have n2_ := qab.mk (qag (g := gb511) (o := .cells #[.slice A0_0 l0_0.length c0_0, .slice A0_1 l0_1.length c0_1, .slice A0_2 l0_2.length c0_2] 26 (0, 0)) (by (with_reducible repeat (first | refine qao ?_ _ | refine qaq ?_ | refine qak ?_ _)); exact BK511.out) hb); have n3_ := qab.mk (qad (by repeat (first | (with_reducible first | exact HB.out | apply qaf | apply qae | apply qah | refine qai ?_ GE511.out) | exact HB.out)) hb); clear HO_4; clear BK511; clear HB; have HO_4 := n0_; have HO515 := n1_; have BK511 := n2_; have HB := n3_; clear n0_ n1_ n2_ n3_; (try clear hb); (try clear hb2); (try clear hk); (try clear hi); (try clear ho0); obtain ⟨Ao14, co14, eo14⟩ := Kd.R_slice HO515.out; subst eo14) | ((with_reducible refine gate_builtin (b := .append) (xs := #[.tmp 15, .tmp 20]) rfl ?_); at_builtin; refine Kd.S_append (Kd.slice 37 k37) (w0 := w) w.heap.size rfl (.tmp 15) (.tmp 20) 80 23 (.slice none 0 0) 24 rfl Try.underlying80 info23 rfl (by decide) (by omega) u4 x4_1 t513 [.slice Ao14 t513.length co14] (fun _ => True) (fun k_ => some k_ = (.slice Ao14 t513.length co14 : Value).ownBlock) rfl rfl ?aP (fun k_ hk_ => ((Kd.R_mono (ok' := fun k_ => ((fun _ => True)) k_ ∧ some k_ ≠ (u4 : Value).ownBlock) (Kd.R_apart' (HO515.out) (Kd.S_typed HO_4.out) (by decide)) (fun k_ hk => ⟨trivial, hk.2⟩))).1 k_ hk_.symm) ?aF ?aO ?aB ?aS ?aL ?_; (case aP => exact Kd.M_row (Kd.R_mono (Kd.R_tight rfl (Kd.R_mono (ok' := fun k_ => ((fun _ => True)) k_ ∧ some k_ ≠ (u4 : Value).ownBlock) (Kd.R_apart' (HO515.out) (Kd.S_typed HO_4.out) (by decide)) (fun k_ hk => ⟨trivial, hk.2⟩))) (fun _ h_ => h_))); (case aB => exact (by repeat (first | (with_reducible first | exact HB.out | apply qaf | apply qae | apply qah | refine qai ?_ GE511.out) | exact HB.out))); (case aF => exact (fun _ _ => trivial)); (case aO => exact (by (with_reducible repeat (first | apply Kd.S_alloc | apply Kd.S_drewN | apply Kd.S_drew)); exact Kd.S_mono HO_4.out (fun k_ hk => ⟨trivial, fun e_ => hk.2 e_⟩))); (case aS => exact (qap (by repeat (first | (with_reducible first | exact HB.out | apply qaf | apply qae | apply qah | refine qai ?_ GE511.out) | exact HB.out)))); (case aL => have := LMc10.out; omega); intro v517 w13 ho hb hg hat; rw [← Ny516.out] at ho; have n0_ := qab.mk (blk_grown (g := gb511) (o := .cells #[.slice A0_0 l0_0.length c0_0, .slice A0_1 l0_1.length c0_1, .slice A0_2 l0_2.length c0_2] 26 (0, 0)) (by (with_reducible repeat (first | refine qao ?_ _ | refine qaq ?_ | refine qak ?_ _)); exact BK511.out) hg (Kd.S_ne HO_4.out BK511.out (by decide))); have n1_ := qab.mk (hb); have n2_ := qab.mk (ho); clear BK511; clear HB; clear HO_4; clear HO515; have BK511 := n0_; have HB := n1_; have HO518 := n2_; clear n0_ n1_ n2_; clear ho hb hg hat))
      go_roundg k1
      case measure => have := HK1.out; omega
      case rel => exact ⟨(y516), (wrap64 (x12_1 + 1)), (by first | rfl | (simp; done) | (simp [*]; done)), H', ⟨by have := HK1.out; omega⟩, ⟨by (with_reducible repeat (first | apply Kd.S_alloc | apply Kd.S_drewN | apply Kd.S_drew)); exact HO518.out⟩, ⟨by (with_reducible repeat (first | refine qao ?_ _ | refine qaq ?_ | refine qak ?_ _)); exact BK511.out⟩, ⟨by repeat (first | (with_reducible first | exact HB.out | apply qaf | apply qae | apply qah | refine qai ?_ GE511.out) | exact HB.out)⟩⟩
     ·
      rw [if_neg c10] at H
      exact absurd H (by simp)
    ·
     rw [if_neg c8] at H
     have c8b0 : decide (x12_1 < (l0_0.length : Int)) = false := decide_eq_false c8
     clear c8
     simp only [Option.some.injEq, Prod.mk.injEq] at H
     obtain ⟨rfl, rfl⟩ := H
     go_wp2
     go_ret2
     exact ⟨_, by first | rfl | (simp [qau, qav] <;> rfl) | (simp [*, qau, qav] <;> rfl), by (with_reducible repeat (first | apply Kd.S_alloc | apply Kd.S_drewN | apply Kd.S_drew)); exact HO_4.out, by repeat (first | (with_reducible first | exact HB.out | apply qaf | apply qae | apply qah | refine qai ?_ GE511.out) | exact HB.out)⟩
 ·
  replace c3 := Bool.eq_false_iff.mpr c3
  subst c3
  have H1 : (some (([] : List (List (S37))), 2)) = some (r1, r2) := by rw [if_neg (show ¬ (false = true) by decide)] at H; exact H
  clear H
  have H := H1
  clear H1
  simp only [Option.some.injEq, Prod.mk.injEq] at H
  obtain ⟨rfl, rfl⟩ := H
  go_enter Try.func47, Try.ntmps47
  go_wp2_with (first | ((with_reducible refine qan (N := 1) rfl ?_); refine qam ?hg (N := 1) ?hd (cs := #[.slice A0_0 l0_0.length c0_0, .slice A0_1 l0_1.length c0_1, .slice A0_2 l0_2.length c0_2]) (t := 26) ?hr ?_; (case hd => rfl); (case hg => rfl); (case hr => first | (go_simp; done) | (go_simp; rfl)); intro gb511 hg w15 hbox hb; have n0_ := qab.mk (qad (by repeat (first | (with_reducible first | exact HB.out | apply qaf | apply qae | apply qah) | exact HB.out)) hb); have n1_ := qab.mk (hbox); have n2_ := qab.mk ((by rw [hg]; exact (qap (by repeat (first | (with_reducible first | exact HB.out | apply qaf | apply qae | apply qah) | exact HB.out))) : w.heap.size ≤ gb511)); have n3_ := qab.mk ((by rw [hg]; exact (qap (by repeat (first | (with_reducible first | exact HB.out | apply qaf | apply qae | apply qah) | exact HB.out))) : w.heap.size ≤ gb511)); clear HB; have HB := n0_; have BK511 := n1_; have GW511 := n2_; have GE511 := n3_; clear n0_ n1_ n2_ n3_; clear hb hbox hg; have hcz16_0 : w15.cell? ⟨gb511, 0, none⟩ = some (.slice A0_0 l0_0.length c0_0) := (qaa BK511.out 0).trans rfl; have hcz16_1 : w15.cell? ⟨gb511, 1, none⟩ = some (.slice A0_1 l0_1.length c0_1) := (qaa BK511.out 1).trans rfl; have hcz16_2 : w15.cell? ⟨gb511, 2, none⟩ = some (.slice A0_2 l0_2.length c0_2) := (qaa BK511.out 2).trans rfl; have hfz16_0 := qac BK511.out 0; have hfz16_1 := qac BK511.out 1; have hfz16_2 := qac BK511.out 2) | ((with_reducible refine gate_callee (f := 54) rfl ?_); refine goesL_ (some 7) rfl rfl Try.func54 (by kernel_rfl) rfl #[.agg #[.slice A0_0 l0_0.length c0_0, .slice A0_1 l0_1.length c0_1, .slice A0_2 l0_2.length c0_2]] rfl (by (try simp only [List.map_toArray, List.map_cons, List.map_nil]); first | done | rfl | (simp only [List.length_drop, List.length_take]; rfl)) ?_; (with_reducible refine (pipe_valid.calls _ _ l0_0 _ _ l0_1 _ _ l0_2 false _ ?side1 ?side2 ?side3 ?side4 ?side5 ?side6 A2.out).mono ?_); (case side1 => repeat (first | exact (Kd.qaj HR0_0.out HB.out) | (with_reducible refine Kd.C_alloc ?_ _) | (with_reducible refine Kd.C_drewN ?_ _) | (with_reducible refine Kd.C_drew ?_))); (case side2 => exact HC0_0.out); (case side3 => repeat (first | exact (Kd.qaj HR0_1.out HB.out) | (with_reducible refine Kd.C_alloc ?_ _) | (with_reducible refine Kd.C_drewN ?_ _) | (with_reducible refine Kd.C_drew ?_))); (case side4 => exact HC0_1.out); (case side5 => repeat (first | exact (Kd.qaj HR0_2.out HB.out) | (with_reducible refine Kd.C_alloc ?_ _) | (with_reducible refine Kd.C_drewN ?_ _) | (with_reducible refine Kd.C_drew ?_))); (case side6 => exact HC0_2.out); rintro e w17 ⟨rfl, hb⟩; refine ⟨_, rfl, ?_⟩; have n0_ := qab.mk (qag (g := gb511) (o := .cells #[.slice A0_0 l0_0.length c0_0, .slice A0_1 l0_1.length c0_1, .slice A0_2 l0_2.length c0_2] 26 (0, 0)) (by (with_reducible repeat (first | refine qao ?_ _ | refine qaq ?_ | refine qak ?_ _)); exact BK511.out) hb); have n1_ := qab.mk (qad (by repeat (first | (with_reducible first | exact HB.out | apply qaf | apply qae | apply qah | refine qai ?_ GE511.out) | exact HB.out)) hb); clear BK511; clear HB; have BK511 := n0_; have HB := n1_; clear n0_ n1_; (try clear hb); (try clear hb2); (try clear hk); (try clear hi)))
  go_ret2
  exact ⟨_, by first | rfl | (simp [qau, qav] <;> rfl) | (simp [*, qau, qav] <;> rfl), by first | exact Kd.S_nil _ _ _ _ _ | exact Kd.N_nil _ _ _ _ _ | exact Kd.V_nil _ _ _ _ _ | exact Kd.Q_nil _ _ _ _ _ | exact Kd.R_nil _ _ _ _ _, by repeat (first | (with_reducible first | exact HB.out | apply qaf | apply qae | apply qah | refine qai ?_ GE511.out) | exact HB.out)⟩
theorem eqA37 (d : Nat) (w : World) (x0 y0 : Int) (x1 y1 : Int) :
  (Op.equalIn (d + 2) 37 (.agg #[.int .i64 x0, .int .i64 x1]) (.agg #[.int .i64 y0, .int .i64 y1])).run Try.prog w = .ok (x0 == y0 && (x1 == y1)) w := by
 refine eqA_of Try.underlying37 (by kernel_rfl) ?_
 refine eqf_cons (by rfl) (by go_simp; rfl) (by go_simp; rfl) (by go_simp) ?_
 exact eqf_last (by rfl) (by go_simp; rfl) (by go_simp; rfl) (by go_simp)
end Go.Proofs.Ytipphcjgdebecaa.PA
namespace Go.Proofs.Ytipphcjgdebecaa.PA
open Go.RowKit Go.Proofs.YtipphcjgdebecaaW.PrintWords Go.Proofs.YtipphcjgdebecaaW.PrintLast Go.Proofs.YtipphcjgdebecaaW.PrintMore
attribute [local go_sem] qaw qay max_two min_two qas qat qax qaz
attribute [local go_sem high] eqA37
end Go.Proofs.Ytipphcjgdebecaa.PA
namespace Go.Proofs.Ytipphcjgdebecaa.PA
open Go.RowKit Go.Proofs.YtipphcjgdebecaaW.PrintWords Go.Proofs.YtipphcjgdebecaaW.PrintLast Go.Proofs.YtipphcjgdebecaaW.PrintMore
attribute [local go_sem] qaw qay max_two min_two qas qat qax qaz
end Go.Proofs.Ytipphcjgdebecaa.PA
namespace Go.Proofs.Ytipphcjgdebecaa.PA
open Go.RowKit Go.Shelf Go.Proofs.YtipphcjgdebecaaW.PrintWords Go.Proofs.YtipphcjgdebecaaW.PrintLast Go.Proofs.YtipphcjgdebecaaW.PrintMore
attribute [local go_sem] qaw qay max_two min_two qas qat qax qaz
def rowsW (l0 : List S39) (l1 : List S37) (n : Nat) : List (List S37) := (List.range n).map fun i : Nat => rowW (qal l0 (i : Int)) l1 l1.length
theorem rowsW_succ (l0 : List S39) (l1 : List S37) (n : Nat) : rowsW l0 l1 (n + 1) = rowsW l0 l1 n ++ [rowW (qal l0 (n : Int)) l1 l1.length] := by simp [rowsW, List.range_succ]
theorem rowsW_length (l0 : List S39) (l1 : List S37) (n : Nat) : (rowsW l0 l1 n).length = n := by simp [rowsW]
section
variable {l0 : List S39} {l1 : List S37} {l2 : List (List Int)}
theorem pwarmth_go (hN : NetOk l0 l1 l2) : ∀ (m j k : Nat), j + m = l0.length → m + 1 ≤ k → pipe_Warmth.l0 k (rowsW l0 l1 j) (l0.length : Int) (j : Int) l0 l1 l2 = some (rowsW l0 l1 l0.length, 0) := by
 have hn := hN.n1
 have hh := hN.h1
 intro m
 induction m with
 | zero =>
  intro j k hj hk
  obtain ⟨k, rfl⟩ : ∃ k', k = k' + 1 := ⟨k - 1, by omega⟩
  obtain rfl : j = l0.length := by omega
  unfold pipe_Warmth.l0
  rw [if_neg (by omega)]
 | succ m ih =>
  intro j k hj hk
  obtain ⟨k, rfl⟩ : ∃ k', k = k' + 1 := ⟨k - 1, by omega⟩
  have hr := ih (j + 1) k (by omega) (by omega)
  rw [rowsW_succ] at hr
  have hw : pipe_net_warmth.f l0 l1 l2 0 (j : Int) = some (rowW (qal l0 (j : Int)) l1 l1.length) := by
   unfold pipe_net_warmth.f
   rw [if_pos ⟨by omega, by omega, by decide, by omega⟩, warmthV_eq hN _ (by omega) (by omega)]
  unfold pipe_Warmth.l0
  rw [if_pos (by omega), hw]
  simp only [Option.bind_some]
  rw [rowsW_length, if_pos (by omega), wsucc j (by omega)]
  exact hr
theorem pwarmth_eq (hv : validB l0 l1 l2 = true) (k : Nat) (hk : 10 ≤ k) : pipe_Warmth.f k l0 l1 l2 = some (rowsW l0 l1 l0.length, 0) := by
 have hN := net_ok hv
 have hn := hN.n1
 unfold pipe_Warmth.f
 rw [show pipe_valid.f l0 l1 l2 = some (validB l0 l1 l2) from rfl, hv]
 simp only [Option.bind_some, if_true]
 exact pwarmth_go hN l0.length 0 k (by omega) (by omega)
end
theorem rd_L6_at (l : List (List S37)) (i : Nat) (h : i < l.length) : rd_L6 l (i : Int) = l[i] := by simp [rd_L6, h]
end Go.Proofs.Ytipphcjgdebecaa.PA
