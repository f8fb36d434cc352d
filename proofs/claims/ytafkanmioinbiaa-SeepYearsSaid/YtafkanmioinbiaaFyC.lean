/- What functions of the program answer. No condition. -/
import Derived.RangeFuncNested
import Derived.RangeFuncBound
import Derived.RangeFuncCalls
import Derived.RangeFuncLeaves
import Derived.RangeFuncBox
import Derived.Shelf.Abstract
import Derived.Shelf.RegionOpen
import Derived.OwnWalkIn
import Derived.TacticsInMore
import Derived.LoopNIn
import Derived.LoopIn
import Derived.Recover
import Derived.Defers
import Derived.WalkLawsBesides
import Derived.WalkSmall
import Derived.Test.YtafkanmioinbiaaFyB
import Derived.Test.YtafkanmioinbiaaSC
import Derived.Test.YtafkanmioinbiaaSD
import Derived.Test.YtafkanmioinbiaaSE
import Derived.Test.YtafkanmioinbiaaSG
import Derived.Test.YtafkanmioinbiaaSH
import Derived.Test.YtafkanmioinbiaaSQ
import Derived.Test.YtafkanmioinbiaaFyA
import Derived.Test.YtafkanmioinbiaaSF
import Derived.Deep.Slices
import Derived.Lib.SmallJoins
import Derived.ChangeOld
import Derived.ProofKit
set_option linter.all false
set_option maxRecDepth 100000
set_option maxHeartbeats 8000000
namespace Go.Proofs.Ytafkanmioinbiaa.SA
open Go.RowKit Go.Shelf Go.Proofs.YtafkanmioinbiaaW.PrintWords Go.Proofs.YtafkanmioinbiaaW.PrintLast Go.Proofs.YtafkanmioinbiaaW.PrintMore
attribute [local go_sem] max2_int min2_int max_two min_two qay qaz max_four min_four
def shortB (l1 : List S44) (l2 l3 : List Int) (l4 : List S41) (l5 : List S95) : Bool := decide (l1.length ≤ 16) && (decide (l2.length ≤ 15) && (decide (l3.length ≤ 15) && (decide (l4.length ≤ 15) && decide (l5.length ≤ 10))))
theorem known_some : taliklaw07_known.f = some true := rfl
section
variable (p : Int) (l1 : List S44) (l2 l3 : List Int) (l4 : List S41) (l5 : List S95)
theorem short_eq : taliklaw07_short.f p l1 l2 l3 l4 l5 = some (shortB l1 l2 l3 l4 l5) := by
 unfold taliklaw07_short.f shortB
 by_cases h1 : l1.length ≤ 16
 ·
  rw [if_pos (by omega), decide_eq_true h1]
  by_cases h2 : l2.length ≤ 15
  ·
   rw [if_pos (by omega), decide_eq_true h2]
   by_cases h3 : l3.length ≤ 15
   ·
    rw [if_pos (by omega), decide_eq_true h3]
    by_cases h4 : l4.length ≤ 15
    ·
     rw [if_pos (by omega), decide_eq_true h4, show decide ((l5.length : Int) ≤ 10) = decide (l5.length ≤ 10) from decide_eq_decide.2 (by omega)]
     rfl
    ·
     rw [if_neg (by omega), decide_eq_false h4]
     rfl
   ·
    rw [if_neg (by omega), decide_eq_false h3]
    rfl
  ·
   rw [if_neg (by omega), decide_eq_false h2]
   rfl
 ·
  rw [if_neg (by omega), decide_eq_false h1]
  rfl
theorem wsucc (i : Nat) (h : i < 1000000) : wrap64 ((i : Int) + 1) = ((i + 1 : Nat) : Int) := by unfold wrap64; omega
theorem valid_cost (hv : validB p l1 l2 l3 l4 l5 = true) (i : Nat) (hi : i < l1.length) : -1 ≤ (qar l1 i).f3 ∧ (qar l1 i).f3 ≤ 1000000 := by
 unfold validB at hv
 have h1 := (Bool.and_eq_true_iff.1 hv).1
 rw [List.all_eq_true] at h1
 have h2 := h1 _ (List.getElem_mem hi)
 unfold edgeB inB at h2
 simp only [Bool.and_eq_true, decide_eq_true_eq] at h2
 have e : qar l1 (i : Int) = l1[i] := by simp [qar, hi]
 rw [e]
 omega
theorem dam_given (hv : validB p l1 l2 l3 l4 l5 = true) (l : List Int) : damB l1 l = givenB p l1 l2 l3 l4 l5 l := by
 have n1 := (valid_facts hv).n1
 unfold givenB
 rw [hv, Bool.true_and]
 have hw : wrap64 ((l1.length : Int) - 1) = (l1.length : Int) - 1 := by unfold wrap64; omega
 have hrd : ∀ k : Nat, ∀ hk : k < l.length, l.getD k 0 = l[k] := fun k hk => by simp [hk]
 cases hd : damB l1 l with
 | true =>
  unfold damB at hd
  rw [List.all_eq_true] at hd
  have hd' : ∀ k, k < l.length → damAt l1 l k = true := fun k hk => hd k (List.mem_range.2 hk)
  have h1 : incB l (l1.length : Int) = true := by
   unfold incB
   refine range_all_true (fun k hk => ?_)
   have := hd' k hk
   unfold damAt at this
   simp only [Bool.and_eq_true] at this
   unfold incAt
   rw [hw, this.1, this.2.1]
   rfl
  have h2 : (l.all fun n => !decide ((qar l1 n).f3 = -1)) = true := by
   rw [List.all_eq_true]
   intro x hx
   obtain ⟨k, hk, rfl⟩ := List.mem_iff_getElem.1 hx
   have := hd' k hk
   unfold damAt at this
   rw [hrd k hk] at this
   simp only [Bool.and_eq_true, decide_eq_true_eq] at this
   have h3 := this.2.2
   simp
   omega
  rw [h1, h2]
  rfl
 | false =>
  unfold damB at hd
  rw [List.all_eq_false] at hd
  obtain ⟨k, hk, hk2⟩ := hd
  have hk := List.mem_range.1 hk
  symm
  rw [Bool.and_eq_false_iff]
  by_cases c : incAt l (l1.length : Int) k = true
  ·
   right
   rw [List.all_eq_false]
   refine ⟨l[k], List.getElem_mem hk, ?_⟩
   unfold incAt at c
   rw [hw] at c
   simp only [Bool.and_eq_true] at c
   unfold damAt at hk2
   rw [c.1, c.2, Bool.true_and, Bool.true_and, hrd k hk] at hk2
   have hi := c.1
   rw [hrd k hk] at hi
   unfold inB at hi
   simp only [Bool.and_eq_true, decide_eq_true_eq] at hi
   obtain ⟨m, hm⟩ := Int.eq_ofNat_of_zero_le hi.1
   have hc := valid_cost p l1 l2 l3 l4 l5 hv m (by omega)
   rw [hm] at hk2 ⊢
   simp only [decide_eq_true_eq, Bool.not_eq_true', decide_eq_false_iff_not, Classical.not_not] at hk2 ⊢
   omega
  ·
   left
   exact range_all_false k hk (by simpa using c)
theorem asked_eq (l : List Int) : taliklaw07_asked.f p l1 l2 l3 l4 l5 l = some (givenB p l1 l2 l3 l4 l5 l) := by
 unfold taliklaw07_asked.f
 rw [show talikref07_Map.f p l1 l2 l3 l4 l5 = some (validB p l1 l2 l3 l4 l5) from rfl, Option.bind_some]
 cases hv : validB p l1 l2 l3 l4 l5 with
 | true =>
  rw [if_pos rfl, show talikref07_Dam.f p l1 l2 l3 l4 l5 l = some (damB l1 l) from rfl, Option.bind_some, dam_given p l1 l2 l3 l4 l5 hv]
 | false =>
  rw [if_neg (by simp)]
  unfold givenB
  rw [hv]
  rfl
theorem spans_go (a : List S41) (h15 : a.length ≤ 1000) : ∀ (m i k : Nat), i + m = a.length → m + 1 ≤ k → talikref07_SameSpans.l0 k a a (i : Int) = some true := by
 intro m
 induction m with
 | zero =>
  intro i k hi hk
  obtain ⟨k, rfl⟩ : ∃ m, k = m + 1 := ⟨k - 1, by omega⟩
  rw [talikref07_SameSpans.l0]
  rw [if_neg (by omega)]
 | succ m ih =>
  intro i k hi hk
  obtain ⟨k, rfl⟩ : ∃ m, k = m + 1 := ⟨k - 1, by omega⟩
  rw [talikref07_SameSpans.l0]
  rw [if_pos (by omega), if_pos (by omega), if_pos (by omega), if_neg (by simp), wsucc i (by omega)]
  exact ih (i + 1) k (by omega) (by omega)
theorem spans_eq (a : List S41) (h15 : a.length ≤ 1000) (k : Nat) (hk : a.length + 1 ≤ k) : talikref07_SameSpans.f k a a = some true := by
 unfold talikref07_SameSpans.f
 rw [if_pos rfl]
 exact spans_go a h15 a.length 0 k (by omega) (by omega)
theorem end_go (hi : Bool) (h15 : l4.length ≤ 15) : ∀ (m i k : Nat), i + m = l4.length → m + 1 ≤ k → talikref07_End.l0 k hi ((l4.take i).map (fun s => if hi = true then s.f1 else s.f0)) (i : Int) p l1 l2 l3 l4 l5 = some (l4.map (fun s => if hi = true then s.f1 else s.f0)) := by
 intro m
 induction m with
 | zero =>
  intro i k hi2 hk
  obtain ⟨k, rfl⟩ : ∃ m, k = m + 1 := ⟨k - 1, by omega⟩
  rw [talikref07_End.l0]
  rw [if_neg (by omega), List.take_of_length_le (by omega)]
 | succ m ih =>
  intro i k hi2 hk
  obtain ⟨k, rfl⟩ : ∃ m, k = m + 1 := ⟨k - 1, by omega⟩
  have hil : i < l4.length := by omega
  have hs := ih (i + 1) k (by omega) (by omega)
  have et : (l4.take (i + 1)).map (fun s => if hi = true then s.f1 else s.f0) = (l4.take i).map (fun s => if hi = true then s.f1 else s.f0) ++ [if hi = true then (rd_T41 l4 (i : Int)).f1 else (rd_T41 l4 (i : Int)).f0] := by
   rw [List.take_succ, List.getElem?_eq_getElem hil, List.map_append]
   simp [rd_T41, hil]
  rw [talikref07_End.l0]
  rw [if_pos (by omega), if_pos (by omega), wsucc i (by omega)]
  cases hi with
  | true =>
   rw [if_pos rfl, if_pos (by simp; omega)]
   rw [et] at hs
   exact hs
  | false =>
   rw [if_neg (by decide), if_pos (by simp; omega)]
   rw [et] at hs
   exact hs
theorem end_hi (h15 : l4.length ≤ 15) (k : Nat) (hk : 20 ≤ k) : talikref07_End.f k p l1 l2 l3 l4 l5 true = some (l4.map (·.f1)) := end_go p l1 l2 l3 l4 l5 true h15 l4.length 0 k (by omega) (by omega)
theorem end_lo (h15 : l4.length ≤ 15) (k : Nat) (hk : 20 ≤ k) : talikref07_End.f k p l1 l2 l3 l4 l5 false = some (l4.map (·.f0)) := end_go p l1 l2 l3 l4 l5 false h15 l4.length 0 k (by omega) (by omega)
end
theorem Fl.congr {l1 : List S44} {ws : List Int} {dk dk' : Nat → Bool} {ths : List Int} (h : ∀ i, i < l1.length → dk i = dk' i) {y : Nat} {x : Int} (hf : Fl l1 ws dk ths y x) : Fl l1 ws dk' ths y x := by
 induction hf with
 | waste hm => exact .waste hm
 | later _ ih => exact .later ih
 | edge ho _ ih => exact .edge ⟨ho.1, by rw [← h _ ho.1]; exact ho.2.1, ho.2.2⟩ ih
theorem IsF.congr {l1 : List S44} {ws : List Int} {dk dk' : Nat → Bool} {ths : List Int} {N P b k : Nat} {o : List Int} (h : ∀ i, i < l1.length → dk i = dk' i) (hf : IsF l1 ws dk ths N P b k o) : IsF l1 ws dk' ths N P b k o :=
 ⟨hf.len, hf.rng, fun p h0 h1 y hy => (hf.iff p h0 h1 y hy).trans ⟨fun g => g.congr h, fun g => g.congr (fun i hi => (h i hi).symm)⟩⟩
section
variable {p : Int} {l1 : List S44} {l2 l3 : List Int} {l4 : List S41} {l5 : List S95} {l : List Int}
theorem valid_InP (hv : validB p l1 l2 l3 l4 l5 = true) : InP l1 p.toNat := fun i hi => by
 have h := (valid_facts hv).e i hi
 have := (valid_facts hv).pp
 omega
theorem valid_ws (hv : validB p l1 l2 l3 l4 l5 = true) : ∀ x ∈ l2, 0 ≤ x ∧ x < p.toNat := fun x hx => by
 have h := (valid_facts hv).w2 x hx
 omega
theorem given_inc (hg : givenB p l1 l2 l3 l4 l5 l = true) : incB l (l1.length : Int) = true := by
 unfold givenB at hg
 simp only [Bool.and_eq_true] at hg
 exact hg.2.1
theorem given_dyke (hg : givenB p l1 l2 l3 l4 l5 l = true) (i : Nat) (hi : i < l1.length) : dykeV (maskV l : Int) (i : Int) = l.contains (i : Int) := by
 have n1 := (valid_facts (given_valid hg)).n1
 have hm := inc_mem (given_inc hg) (.inr (by omega)) (by omega)
 have hlt : maskV l < 2 ^ 12 := mask_lt l 12 (fun x hx => ⟨(hm x hx).1, by have := (hm x hx).2; omega⟩)
 rw [dyke_bit _ (by omega) i (by omega), mask_bit l (fun x hx => (hm x hx).1)]
 cases h : l.contains (i : Int) with
 | true =>
  rw [List.any_eq_true]
  exact ⟨i, by simpa using h, by simp⟩
 | false =>
  rw [List.any_eq_false]
  intro x hx hxi
  have : x = (i : Int) := by simpa using hxi
  subst this
  simp [hx] at h
theorem foul_isF (hg : givenB p l1 l2 l3 l4 l5 l = true) (ths : List Int) : IsF l1 l2 (fun i => l.contains (i : Int)) ths ths.length p.toNat ths.length ths.length (foulV p.toNat l1 l2 (maskV l) ths) :=
 (foulV_isF (valid_InP (given_valid hg)) _ (valid_ws (given_valid hg))).congr (given_dyke hg)
theorem foul_eq (hg : givenB p l1 l2 l3 l4 l5 l = true) (ths : List Int) (hN : 1 ≤ ths.length) : foulV p.toNat l1 l2 (maskV l) ths = rfV p.toNat l1 l2 l ths :=
 (foul_isF hg ths).uniq (rfV_isF (valid_InP (given_valid hg)) (valid_ws (given_valid hg)) hN)
end
end Go.Proofs.Ytafkanmioinbiaa.SA
namespace Go.Proofs.Ytafkanmioinbiaa.SA
open Go.RowKit Go.Proofs.YtafkanmioinbiaaW.PrintWords Go.Proofs.YtafkanmioinbiaaW.PrintLast Go.Proofs.YtafkanmioinbiaaW.PrintMore
attribute [local go_sem] max2_int min2_int max_two min_two qay qaz max_four min_four
attribute [local go_sem] Oper.semAt_some
def talikref07_Foul.f (a0_0 : Int) (l0_1 : List (S44)) (l0_2 : List Int) (l0_3 : List Int) (l0_4 : List (S41)) (l0_5 : List (S95)) (l1 : List Int) (l2 : List Int) : Option (List Int) := if validB a0_0 l0_1 l0_2 l0_3 l0_4 l0_5 = true then some (rfV a0_0.toNat l0_1 l0_2 l1 l2) else none
theorem talikref07_Foul.calls (a0_0 : Int) (A0_1 : Option Addr) (c0_1 : Nat) (l0_1 : List (S44)) (A0_2 : Option Addr) (c0_2 : Nat) (l0_2 : List Int) (A0_3 : Option Addr) (c0_3 : Nat) (l0_3 : List Int) (A0_4 : Option Addr) (c0_4 : Nat) (l0_4 : List (S41)) (A0_5 : Option Addr) (c0_5 : Nat) (l0_5 : List (S95)) (A1 : Option Addr) (c1 : Nat) (l1 : List Int) (A2 : Option Addr) (c2 : Nat) (l2 : List Int) (r : List Int) (w : World) (hr0_1 : Kd.C k44 w A0_1 l0_1.length l0_1) (hc0_1 : l0_1.length ≤ c0_1) (hr0_2 : Kd.C (Kd.int .i64) w A0_2 l0_2.length l0_2) (hc0_2 : l0_2.length ≤ c0_2) (hr0_3 : Kd.C (Kd.int .i64) w A0_3 l0_3.length l0_3) (hc0_3 : l0_3.length ≤ c0_3) (hr0_4 : Kd.C k41 w A0_4 l0_4.length l0_4) (hc0_4 : l0_4.length ≤ c0_4) (hr0_5 : Kd.C k95 w A0_5 l0_5.length l0_5) (hc0_5 : l0_5.length ≤ c0_5) (hr1 : Kd.C (Kd.int .i64) w A1 l1.length l1) (hc1 : l1.length ≤ c1) (hr2 : Kd.C (Kd.int .i64) w A2 l2.length l2) (hc2 : l2.length ≤ c2) (h : talikref07_Foul.f a0_0 l0_1 l0_2 l0_3 l0_4 l0_5 l1 l2 = some r) :
  Calls Try.prog 22 #[.agg #[.int .i64 a0_0, .slice A0_1 l0_1.length c0_1, .slice A0_2 l0_2.length c0_2, .slice A0_3 l0_3.length c0_3, .slice A0_4 l0_4.length c0_4, .slice A0_5 l0_5.length c0_5], .slice A1 l1.length c1, .slice A2 l2.length c2] w fun e w' => ∃ v0_ : Value, e = .returned (v0_) ∧ Kd.R (Kd.int .i64) 3 w' w.heap.size (fun _ => True) v0_ r ∧ Below w.heap.size w w' := by
 have hv : validB a0_0 l0_1 l0_2 l0_3 l0_4 l0_5 = true := by
  by_cases h2 : validB a0_0 l0_1 l0_2 l0_3 l0_4 l0_5 = true
  ·
   exact h2
  ·
   unfold talikref07_Foul.f at h
   rw [if_neg h2] at h
   cases h
 have hr : rfV a0_0.toNat l0_1 l0_2 l1 l2 = r := by
  unfold talikref07_Foul.f at h
  rw [if_pos hv] at h
  exact Option.some.inj h
 have HV := qab.mk (valid_facts hv)
 have hpp := HV.out.pp
 obtain ⟨P, rfl⟩ := Int.eq_ofNat_of_zero_le (show 0 ≤ a0_0 by omega)
 rw [Int.toNat_natCast] at hr
 have HRR := qab.mk hr
 clear h hr hv
 have hu27 := Try.underlying27
 have hu44 := Try.underlying44
 have m2 := Kd.C_max hr2
 have n1 := HV.out.n1
 have HR1 := qab.mk hr0_1
 have HR2 := qab.mk hr0_2
 have HD := qab.mk hr1
 have HTH := qab.mk hr2
 have HB := qab.mk (Below.refl w.heap.size w)
 clear hr0_1 hr0_2 hr0_3 hr0_4 hr0_5 hr1 hr2 hc2
 obtain ⟨N, hN⟩ : ∃ N, N = l2.length := ⟨_, rfl⟩
 have HNN := qab.mk hN
 go_enter Try.func22, Try.ntmps22
 go_wp2_with ((with_reducible refine qam (N := 3) rfl ?_); refine ze 3 #[.int .i64 (P : Int), .slice A0_1 l0_1.length c0_1, .slice A0_2 l0_2.length c0_2, .slice A0_3 l0_3.length c0_3, .slice A0_4 l0_4.length c0_4, .slice A0_5 l0_5.length c0_5] 27 ?_; intro gb hg_gb w2 hbox hb; have BKgb := qab.mk hbox; have n_HB := qab.mk (qae HB.out hb); have GEgb : w.heap.size ≤ gb := (by rw [hg_gb]; exact HB.out.size); clear HB; have HB := n_HB; clear n_HB; obtain ⟨hfgb, hcgb_0, hcgb_1, hcgb_2, hcgb_3, hcgb_4, hcgb_5⟩ := qz6 BKgb.out; clear hbox hb hg_gb)
 have HF : qab (RF w gb #[.int .i64 (P : Int), .slice A0_1 l0_1.length c0_1, .slice A0_2 l0_2.length c0_2, .slice A0_3 l0_3.length c0_3, .slice A0_4 l0_4.length c0_4, .slice A0_5 l0_5.length c0_5] (.slice none 0 0) (rfInit l0_2 N 0) w2) := ⟨HB.out, BKgb.out, Kd.R_nil _ _ _ _ _⟩
 clear BKgb HB hfgb hcgb_0 hcgb_1 hcgb_2 hcgb_3 hcgb_4 hcgb_5 hN
 go_loopw [7, 8] (fun s7 s8 wr => ∃ (k : Nat) (v : Value), k ≤ P ∧ s8 = .int .i64 k ∧ v = s7 ∧ qab (RF w gb #[.int .i64 (P : Int), .slice A0_1 l0_1.length c0_1, .slice A0_2 l0_2.length c0_2, .slice A0_3 l0_3.length c0_3, .slice A0_4 l0_4.length c0_4, .slice A0_5 l0_5.length c0_5] v (rfInit l0_2 N k) wr)) (fun _ s _ => P - (intOf s).toNat)
 case atStart => exact ⟨0, _, by omega, rfl, rfl, HF⟩
 case round =>
  clear HF
  obtain ⟨k, v, hk, rfl, rfl, HF⟩ := hrel
  have q0 : wr.cell? ⟨gb, 0, none⟩ = some (.int .i64 (P : Int)) := (qaa HF.out.b 0).trans rfl
  by_cases hlt : k < P
  ·
   have q2 : wr.cell? ⟨gb, 2, none⟩ = some (.slice A0_2 l0_2.length c0_2) := (qaa HF.out.b 2).trans rfl
   obtain ⟨cb, hcb⟩ : ∃ b, b = l0_2.contains (k : Int) := ⟨_, rfl⟩
   have HHS : qab (∀ W, Below w.heap.size w W → Calls Try.prog 25 #[.slice A0_2 l0_2.length c0_2, .int .i64 (k : Int)] W fun e w' => e = .returned (.bool cb) ∧ Below W.heap.size W w') := ⟨fun W hW => by rw [hcb]; exact rhas_calls _ _ _ _ W (Kd.qai HR2.out hW) hc0_2⟩
   have HS := qab.mk (rfInit_succ l0_2 N k)
   rw [← hcb] at HS
   have HL : qab ((rfInit l0_2 N k).length ≤ 10) := ⟨by rw [rfInit_length]; omega⟩
   clear hcb
   cases cb with
   | false =>
    go_wp2_with (first | (go_at_call 25; (with_reducible refine (HHS.out _ HF.out.hb).mono ?_); rintro e wn ⟨rfl, hb⟩; have HF2 := qab.mk (HF.out.below hb); clear hb) | (with_reducible refine gate_builtin (b := .append) (xs := #[.tmp 26, .tmp 28]) rfl ?_); at_builtin; refine Kd.R_append (Kd.int .i64) (w0 := w) w.heap.size rfl (.tmp 26) (.tmp 28) 23 3 (.int .i64 0) 8 rfl Try.underlying23 info3 rfl (by decide) (by omega) v (rfInit l0_2 N k) (l2.length : Int) [.int .i64 (l2.length : Int)] (fun _ => True) (fun _ => False) rfl rfl ?aP (fun _ hk => hk.elim) ?aF ?aO ?aB ?aS ?aL ?_; (case aP => exact rfl); (case aF => exact fun _ _ => trivial); (case aO => exact HF2.out.o); (case aB => exact HF2.out.hb); (case aS => exact HF2.out.hb.size); (case aL => have := HL.out; omega); intro v1 w1 ho hB hg hat; have HF3 := qab.mk (HF2.out.app ho hB hg); clear ho hB hg hat)
    go_roundw
    case rel => exact ⟨k + 1, v1, by omega, by go_num, rfl, ⟨by rw [HS.out]; have h := HF3.out; rw [← HNN.out] at h; exact h⟩⟩
    case measure => simp [intOf]; omega
   | true =>
    go_wp2_with (first | (go_at_call 25; (with_reducible refine (HHS.out _ HF.out.hb).mono ?_); rintro e wn ⟨rfl, hb⟩; have HF2 := qab.mk (HF.out.below hb); clear hb) | (with_reducible refine gate_builtin (b := .append) (xs := #[.tmp 26, .tmp 28]) rfl ?_); at_builtin; refine Kd.R_append (Kd.int .i64) (w0 := w) w.heap.size rfl (.tmp 26) (.tmp 28) 23 3 (.int .i64 0) 8 rfl Try.underlying23 info3 rfl (by decide) (by omega) v (rfInit l0_2 N k) 0 [.int .i64 0] (fun _ => True) (fun _ => False) rfl rfl ?aP (fun _ hk => hk.elim) ?aF ?aO ?aB ?aS ?aL ?_; (case aP => exact rfl); (case aF => exact fun _ _ => trivial); (case aO => exact HF2.out.o); (case aB => exact HF2.out.hb); (case aS => exact HF2.out.hb.size); (case aL => have := HL.out; omega); intro v1 w1 ho hB hg hat; have HF3 := qab.mk (HF2.out.app ho hB hg); clear ho hB hg hat)
    go_roundw
    case rel => exact ⟨k + 1, v1, by omega, by go_num, rfl, ⟨by rw [HS.out]; exact HF3.out⟩⟩
    case measure => simp [intOf]; omega
  ·
   have hkP : k = P := by omega
   have HF1 : qab (RF w gb #[.int .i64 (P : Int), .slice A0_1 l0_1.length c0_1, .slice A0_2 l0_2.length c0_2, .slice A0_3 l0_3.length c0_3, .slice A0_4 l0_4.length c0_4, .slice A0_5 l0_5.length c0_5] v (rfTo P l0_1 l0_2 l1 l2 0) wr) := ⟨by have h := HF.out; rw [hkP] at h; unfold rfTo; rw [← HNN.out]; exact h⟩
   obtain ⟨go, cp, rfl, _⟩ := Kd.R_form HF1.out.o (by rw [rfTo_length]; omega)
   rw [rfTo_length] at HF1
   rw [rfTo_length]
   clear HF hkP
   go_wp2
   clear q0
   go_loopw [10] (fun s10 wr => ∃ y : Nat, y ≤ N ∧ s10 = .int .i64 y ∧ qab (RF w gb #[.int .i64 (P : Int), .slice A0_1 l0_1.length c0_1, .slice A0_2 l0_2.length c0_2, .slice A0_3 l0_3.length c0_3, .slice A0_4 l0_4.length c0_4, .slice A0_5 l0_5.length c0_5] (.slice (some ⟨go, 0, none⟩) P cp) (rfTo P l0_1 l0_2 l1 l2 y) wr)) (fun s _ => N - (intOf s).toNat)
   case atStart => exact ⟨0, by omega, rfl, HF1⟩
   case round =>
    clear HF1
    obtain ⟨y, hy, rfl, HF⟩ := hrel
    by_cases hlt : y < N
    ·
     obtain ⟨th, hth⟩ : ∃ x, x = rd l2 (y : Int) := ⟨_, rfl⟩
     have HY : qab (rfTo P l0_1 l0_2 l1 l2 (y + 1) = rfAgain l0_1 l1 th y (rfTo P l0_1 l0_2 l1 l2 y) P) := ⟨by rw [hth]; rfl⟩
     obtain ⟨at_, e, t0⟩ := Kd.at_int HTH.out y (by omega) (by have := HNN.out; omega)
     cases e
     rw [← hth] at t0
     simp only [Int.toNat_natCast] at t0
     have T0 := qab.mk t0
     have hyl : y < l2.length := by have := HNN.out; omega
     clear t0 hth
     obtain ⟨O, hO⟩ : ∃ O, O = rfTo P l0_1 l0_2 l1 l2 y := ⟨_, rfl⟩
     have HOL : qab (O.length = P) := ⟨by rw [hO]; exact rfTo_length _ _ _ _ _ _⟩
     rw [← hO] at HF HY
     clear hO
     go_wp2
     go_loopw [11] (fun s11 wr => ∃ m : Nat, m ≤ P ∧ s11 = .int .i64 m ∧ qab (RF w gb #[.int .i64 (P : Int), .slice A0_1 l0_1.length c0_1, .slice A0_2 l0_2.length c0_2, .slice A0_3 l0_3.length c0_3, .slice A0_4 l0_4.length c0_4, .slice A0_5 l0_5.length c0_5] (.slice (some ⟨go, 0, none⟩) P cp) (rfAgain l0_1 l1 th y O m) wr)) (fun s _ => P - (intOf s).toNat)
     case atStart => exact ⟨0, by omega, rfl, HF⟩
     case round =>
      clear HF
      obtain ⟨m, hm, rfl, HF⟩ := hrel
      have q0 : wr.cell? ⟨gb, 0, none⟩ = some (.int .i64 (P : Int)) := (qaa HF.out.b 0).trans rfl
      by_cases hlt2 : m < P
      ·
       obtain ⟨O2, hO2⟩ : ∃ O2, O2 = rfAgain l0_1 l1 th y O m := ⟨_, rfl⟩
       have HOL2 : qab (O2.length = P) := ⟨by rw [hO2, rfAgain_length]; exact HOL.out⟩
       have HM : qab (rfAgain l0_1 l1 th y O (m + 1) = rfEdges l0_1 l1 th y O2 l0_1.length) := ⟨by rw [hO2]; rfl⟩
       rw [← hO2] at HF
       clear hO2
       go_wp2
       clear q0
       go_loopw [12] (fun s12 wr => ∃ i : Nat, i ≤ l0_1.length ∧ s12 = .int .i64 i ∧ qab (RF w gb #[.int .i64 (P : Int), .slice A0_1 l0_1.length c0_1, .slice A0_2 l0_2.length c0_2, .slice A0_3 l0_3.length c0_3, .slice A0_4 l0_4.length c0_4, .slice A0_5 l0_5.length c0_5] (.slice (some ⟨go, 0, none⟩) P cp) (rfEdges l0_1 l1 th y O2 i) wr)) (fun s _ => l0_1.length - (intOf s).toNat)
       case atStart => exact ⟨0, by omega, rfl, HF⟩
       case round =>
        clear HF
        obtain ⟨i, hi, rfl, HI⟩ := hrel
        have q1 : wr.cell? ⟨gb, 1, none⟩ = some (.slice A0_1 l0_1.length c0_1) := (qaa HI.out.b 1).trans rfl
        obtain ⟨W0, rfl⟩ : ∃ W0, W0 = wr := ⟨_, rfl⟩
        by_cases hli : i < l0_1.length
        ·
         have hed := HV.out.e i hli
         obtain ⟨ad1, e, q4, q5, q6, q7⟩ := at_T44 (Kd.qai HR1.out HI.out.hb) i (by omega) (by omega)
         cases e
         simp only [Int.toNat_natCast] at q4 q5 q6 q7
         obtain ⟨O3, hO3⟩ : ∃ O3, O3 = rfEdges l0_1 l1 th y O2 i := ⟨_, rfl⟩
         have HOL3 : qab (O3.length = P) := ⟨by rw [hO3, rfEdges_length]; exact HOL2.out⟩
         have HO3 := qab.mk hO3
         rw [← hO3] at HI
         have HST : qab (rfStep l0_1 l1 th y O3 i = if l1.contains (i : Int) = true then O3 else if (qar l0_1 i).f2 ≤ th then if rd O3 (qar l0_1 i).f0 ≤ y then if y < rd O3 (qar l0_1 i).f1 then O3.set (qar l0_1 i).f1.toNat y else O3 else O3 else O3) := ⟨rfl⟩
         clear hO3
         generalize (qar l0_1 i).f0 = e0 at q4 HST hed
         generalize (qar l0_1 i).f1 = e1 at q5 HST hed
         generalize (qar l0_1 i).f2 = e2 at q6 HST hed
         generalize (qar l0_1 i).f3 = e3 at q7 hed
         obtain ⟨n0, rfl⟩ := Int.eq_ofNat_of_zero_le (show 0 ≤ e0 by omega)
         obtain ⟨n1, rfl⟩ := Int.eq_ofNat_of_zero_le (show 0 ≤ e1 by omega)
         have hn0 : n0 < P := by omega
         have hn1 : n1 < P := by omega
         clear hed
         obtain ⟨x0, hx0⟩ : ∃ x, x = rd O3 (n0 : Int) := ⟨_, rfl⟩
         obtain ⟨x1, hx1⟩ : ∃ x, x = rd O3 (n1 : Int) := ⟨_, rfl⟩
         rw [← hx0, ← hx1, Int.toNat_natCast] at HST
         have HX0 : qab (∀ W, Kd.R (Kd.int .i64) 3 W w.heap.size (fun _ => True) (.slice (some ⟨go, 0, none⟩) P cp) O3 → W.cell? ⟨go, n0, none⟩ = some (.int .i64 x0) ∧ W.cell? ⟨go, n1, none⟩ = some (.int .i64 x1)) := ⟨fun W h => ⟨by rw [hx0]; exact introw_at h n0 hn0, by rw [hx1]; exact introw_at h n1 hn1⟩⟩
         clear hx0 hx1
         have HBW := qab.mk (Below.refl W0.heap.size W0)
         go_upto_region 19 with ((with_reducible refine qam (N := 13) rfl ?_); refine ze 13 #[.int .i64 0, .int .i64 0, .int .i64 0, .int .i64 0] 44 ?_; intro ge hg_ge w3 hbox hb; have BKge := qab.mk hbox; have n_HB := qab.mk (qae HBW.out hb); have GEge : W0.heap.size ≤ ge := (by rw [hg_ge]; exact HBW.out.size); clear HBW; have HBW := n_HB; clear n_HB; obtain ⟨hfge, hcge_0, hcge_1, hcge_2, hcge_3⟩ := qz4 BKge.out; clear hbox hb hg_ge)
         clear q4 q5 q6 q7 hfge hcge_0 hcge_1 hcge_2 hcge_3 q1
         have he_ : setAll w3 ge [.int .i64 (n0 : Int), .int .i64 (n1 : Int), .int .i64 e2, .int .i64 e3] 0 = ((((w3.setCell ⟨ge, 0, none⟩ (.int .i64 (n0 : Int))).setCell ⟨ge, 1, none⟩ (.int .i64 (n1 : Int))).setCell ⟨ge, 2, none⟩ (.int .i64 e2)).setCell ⟨ge, 3, none⟩ (.int .i64 e3)) := rfl; have hbl := setAll_below GEge [.int .i64 (n0 : Int), .int .i64 (n1 : Int), .int .i64 e2, .int .i64 e3] 0 _ HBW.out; have hbx : (setAll w3 ge [.int .i64 (n0 : Int), .int .i64 (n1 : Int), .int .i64 e2, .int .i64 e3] 0).heap[ge]? = some (.cells #[.int .i64 (n0 : Int), .int .i64 (n1 : Int), .int .i64 e2, .int .i64 e3] 44 (0, 0)) := setAll_new [.int .i64 (n0 : Int), .int .i64 (n1 : Int), .int .i64 e2, .int .i64 e3] [.int .i64 0, .int .i64 0, .int .i64 0, .int .i64 0] BKge.out rfl; rw [he_] at hbl hbx ; clear he_; generalize ((((w3.setCell ⟨ge, 0, none⟩ (.int .i64 (n0 : Int))).setCell ⟨ge, 1, none⟩ (.int .i64 (n1 : Int))).setCell ⟨ge, 2, none⟩ (.int .i64 e2)).setCell ⟨ge, 3, none⟩ (.int .i64 e3)) = w5 at hbl hbx  ⊢; clear HBW BKge; have HBW := qab.mk hbl; have BKge := qab.mk hbx; clear hbl hbx
         have HI5 := qab.mk (HI.out.below HBW.out)
         have HT : qab (∀ W, Below w5.heap.size w5 W → (W.cell? ⟨ge, 0, none⟩ = some (.int .i64 (n0 : Int)) ∧ W.cell? ⟨ge, 1, none⟩ = some (.int .i64 (n1 : Int)) ∧ W.cell? ⟨ge, 2, none⟩ = some (.int .i64 e2) ∧ W.cell? (at_.add y) = some (.int .i64 th) ∧ W.cell? ⟨go, n0, none⟩ = some (.int .i64 x0) ∧ W.cell? ⟨go, n1, none⟩ = some (.int .i64 x1) ∧ qab (Below w5.heap.size w5 W))) := ⟨fun W h => ⟨(qaa (qad BKge.out h) 0).trans rfl, (qaa (qad BKge.out h) 1).trans rfl, (qaa (qad BKge.out h) 2).trans rfl, ((HI5.out.below h).hb.cell (World.block_lt_of_cell? w _ T0.out)).trans T0.out, (HX0.out W (HI5.out.below h).o).1, (HX0.out W (HI5.out.below h).o).2, ⟨h⟩⟩⟩
         obtain ⟨dy, hdy⟩ : ∃ b, b = l1.contains (i : Int) := ⟨_, rfl⟩
         have HDY : qab (∀ W, Below w5.heap.size w5 W → Calls Try.prog 25 #[.slice A1 l1.length c1, .int .i64 (i : Int)] W fun e w' => e = .returned (.bool dy) ∧ Below W.heap.size W w') := ⟨fun W hW => by rw [hdy]; exact rhas_calls _ _ _ _ W (Kd.qai HD.out (HI5.out.below hW).hb) hc1⟩
         rw [← hdy, HO3.out] at HST
         clear hdy
         cases dy with
         | true =>
          have HS : qab (rfStep l0_1 l1 th y (rfEdges l0_1 l1 th y O2 i) i = O3) := ⟨by rw [HST.out, ← HO3.out]; rfl⟩
          clear HST
          refine start_ (n := 31) (S := (fun w' => (w'.cell? ⟨ge, 0, none⟩ = some (.int .i64 (n0 : Int)) ∧ w'.cell? ⟨ge, 1, none⟩ = some (.int .i64 (n1 : Int)) ∧ w'.cell? ⟨ge, 2, none⟩ = some (.int .i64 e2) ∧ w'.cell? (at_.add y) = some (.int .i64 th) ∧ w'.cell? ⟨go, n0, none⟩ = some (.int .i64 x0) ∧ w'.cell? ⟨go, n1, none⟩ = some (.int .i64 x1) ∧ qab (Below w5.heap.size w5 w')))) (ds := []) (msk 31 0) (by kernel_rfl) rfl rfl (HT.out _ (qav (Below.refl _ _))) (fun hHeld => ?_)
          refine zq 0 1 54 ?_
          refine zq 1 2 55 ?_
          refine one_ (i := 2) (N := some 56) (msk 31 3) rfl rfl (by kernel_rfl) (by decide) (fun K hK => ?_)
          refine zg Try.func25 #[.slice A1 l1.length c1, .int .i64 (i : Int)] ?_
          refine (HDY.out _ hHeld.2.2.2.2.2.2.out).mono ?_; rintro e w6 ⟨rfl, hb⟩; have HP6 := qab.mk (HT.out w6 (qae hHeld.2.2.2.2.2.2.out hb)); clear hb; refine ⟨_, rfl, ?_⟩; refine hK.out _ _ HP6.out (fun hHeld => ?_); clear hK K; refine zn 56 ?_
          refine zq 3 4 57 ?_
          refine zq 4 5 58 ?_
          refine zo 5 6 59 ?_
          refine zo 6 7 60 ?_
          refine zo 7 8 61 ?_
          refine zo 8 9 62 ?_
          refine zo 9 10 63 ?_
          refine zo 10 11 64 ?_
          refine zo 11 12 65 ?_
          refine zq 12 13 66 ?_
          refine zq 13 14 67 ?_
          refine zo 14 15 68 ?_
          refine zo 15 16 69 ?_
          refine zo 16 17 70 ?_
          refine zo 17 18 71 ?_
          refine zo 18 19 72 ?_
          refine zo 19 20 73 ?_
          refine zo 20 21 74 ?_
          refine zq 21 22 75 ?_
          refine zq 22 23 76 ?_
          refine zo 23 24 77 ?_
          refine zo 24 25 78 ?_
          refine zo 25 26 79 ?_
          refine zo 26 27 80 ?_
          refine zo 27 28 81 ?_
          refine zo 28 29 82 ?_
          refine zo 29 30 83 ?_
          refine zq 30 31 84 ?_
          refine done_ (by kernel_rfl) ?_
          clear hHeld
          have HI6 := qab.mk (HI5.out.below HP6.out.2.2.2.2.2.2.out)
          go_wp2
          go_roundw
          case rel => exact ⟨i + 1, by omega, by go_num, ⟨by rw [rfEdges_succ, HS.out]; exact HI6.out⟩⟩
          case measure => simp [intOf]; omega
         | false =>
          rw [if_neg (by decide)] at HST
          by_cases hc1_ : e2 ≤ th
          ·
           have hd1 : decide (e2 ≤ th) = true := decide_eq_true hc1_
           rw [if_pos hc1_] at HST
           by_cases hc2_ : x0 ≤ (y : Int)
           ·
            have hd2 : decide (x0 ≤ (y : Int)) = true := decide_eq_true hc2_
            rw [if_pos hc2_] at HST
            by_cases hc3_ : (y : Int) < x1
            ·
             have hd3 : decide ((y : Int) < x1) = true := decide_eq_true hc3_
             have HS : qab (rfStep l0_1 l1 th y (rfEdges l0_1 l1 th y O2 i) i = O3.set n1 y) := ⟨by rw [HST.out, if_pos hc3_, ← HO3.out]⟩
             clear HST hc1_ hc2_ hc3_
             refine start_ (n := 31) (S := (fun w' => (w'.cell? ⟨ge, 0, none⟩ = some (.int .i64 (n0 : Int)) ∧ w'.cell? ⟨ge, 1, none⟩ = some (.int .i64 (n1 : Int)) ∧ w'.cell? ⟨ge, 2, none⟩ = some (.int .i64 e2) ∧ w'.cell? (at_.add y) = some (.int .i64 th) ∧ w'.cell? ⟨go, n0, none⟩ = some (.int .i64 x0) ∧ w'.cell? ⟨go, n1, none⟩ = some (.int .i64 x1) ∧ qab (Below w5.heap.size w5 w')))) (ds := []) (msk 31 0) (by kernel_rfl) rfl rfl (HT.out _ (qav (Below.refl _ _))) (fun hHeld => ?_)
             refine zq 0 1 54 ?_
             refine zq 1 2 55 ?_
             refine one_ (i := 2) (N := some 56) (msk 31 3) rfl rfl (by kernel_rfl) (by decide) (fun K hK => ?_)
             refine zg Try.func25 #[.slice A1 l1.length c1, .int .i64 (i : Int)] ?_
             refine (HDY.out _ hHeld.2.2.2.2.2.2.out).mono ?_; rintro e w6 ⟨rfl, hb⟩; have HP6 := qab.mk (HT.out w6 (qae hHeld.2.2.2.2.2.2.out hb)); clear hb; refine ⟨_, rfl, ?_⟩; refine hK.out _ _ HP6.out (fun hHeld => ?_); clear hK K; refine zn 56 ?_
             refine zq 3 4 57 ?_
             refine zq 4 5 58 ?_
             refine zq 5 6 59 ?_
             refine zq 6 7 60 ?_
             refine zq 7 8 61 ?_
             refine zt7 8 9 62 hHeld ?_
             refine zq 9 10 63 ?_
             refine zt7 10 11 64 hHeld ?_
             refine zq 11 12 65 ?_
             refine zq 12 13 66 ?_
             refine zq 13 14 67 ?_
             refine zq 14 15 68 ?_
             refine zq 15 16 69 ?_
             refine zt7 16 17 70 hHeld ?_
             refine zq 17 18 71 ?_
             refine zt7 18 19 72 hHeld ?_
             refine zq 19 20 73 ?_
             refine zq 20 21 74 ?_
             refine zq 21 22 75 ?_
             refine zq 22 23 76 ?_
             refine zq 23 24 77 ?_
             refine zq 24 25 78 ?_
             refine zt7 25 26 79 hHeld ?_
             refine zq 26 27 80 ?_
             refine zt7 27 28 81 hHeld ?_
             refine zq 28 29 82 ?_
             refine zq 29 30 83 ?_
             refine zq 30 31 84 ?_
             refine done_ (by kernel_rfl) ?_
             clear hHeld
             have HI6 := qab.mk (HI5.out.below HP6.out.2.2.2.2.2.2.out)
             obtain ⟨_, cso, hbo⟩ := R_blk HI6.out.o (by omega)
             have fr := qac hbo
             have g1 : w6.cell? ⟨ge, 1, none⟩ = some (.int .i64 (n1 : Int)) := HP6.out.2.1
             have g2 := HP6.out.2.2.2.2.2.1
             have HI7 := qab.mk (HI6.out.put (by omega) n1 (y : Int))
             clear hbo
             go_wp2
             go_roundw
             case rel => exact ⟨i + 1, by omega, by go_num, ⟨by rw [rfEdges_succ, HS.out]; exact HI7.out⟩⟩
             case measure => simp [intOf]; omega
            ·
             have hd3 : decide ((y : Int) < x1) = false := decide_eq_false hc3_
             have HS : qab (rfStep l0_1 l1 th y (rfEdges l0_1 l1 th y O2 i) i = O3) := ⟨by rw [HST.out, if_neg hc3_, ← HO3.out]⟩
             clear HST hc1_ hc2_ hc3_
             refine start_ (n := 31) (S := (fun w' => (w'.cell? ⟨ge, 0, none⟩ = some (.int .i64 (n0 : Int)) ∧ w'.cell? ⟨ge, 1, none⟩ = some (.int .i64 (n1 : Int)) ∧ w'.cell? ⟨ge, 2, none⟩ = some (.int .i64 e2) ∧ w'.cell? (at_.add y) = some (.int .i64 th) ∧ w'.cell? ⟨go, n0, none⟩ = some (.int .i64 x0) ∧ w'.cell? ⟨go, n1, none⟩ = some (.int .i64 x1) ∧ qab (Below w5.heap.size w5 w')))) (ds := []) (msk 31 0) (by kernel_rfl) rfl rfl (HT.out _ (qav (Below.refl _ _))) (fun hHeld => ?_)
             refine zq 0 1 54 ?_
             refine zq 1 2 55 ?_
             refine one_ (i := 2) (N := some 56) (msk 31 3) rfl rfl (by kernel_rfl) (by decide) (fun K hK => ?_)
             refine zg Try.func25 #[.slice A1 l1.length c1, .int .i64 (i : Int)] ?_
             refine (HDY.out _ hHeld.2.2.2.2.2.2.out).mono ?_; rintro e w6 ⟨rfl, hb⟩; have HP6 := qab.mk (HT.out w6 (qae hHeld.2.2.2.2.2.2.out hb)); clear hb; refine ⟨_, rfl, ?_⟩; refine hK.out _ _ HP6.out (fun hHeld => ?_); clear hK K; refine zn 56 ?_
             refine zq 3 4 57 ?_
             refine zq 4 5 58 ?_
             refine zq 5 6 59 ?_
             refine zq 6 7 60 ?_
             refine zq 7 8 61 ?_
             refine zt7 8 9 62 hHeld ?_
             refine zq 9 10 63 ?_
             refine zt7 10 11 64 hHeld ?_
             refine zq 11 12 65 ?_
             refine zq 12 13 66 ?_
             refine zq 13 14 67 ?_
             refine zq 14 15 68 ?_
             refine zq 15 16 69 ?_
             refine zt7 16 17 70 hHeld ?_
             refine zq 17 18 71 ?_
             refine zt7 18 19 72 hHeld ?_
             refine zq 19 20 73 ?_
             refine zq 20 21 74 ?_
             refine zq 21 22 75 ?_
             refine zq 22 23 76 ?_
             refine zq 23 24 77 ?_
             refine zq 24 25 78 ?_
             refine zt7 25 26 79 hHeld ?_
             refine zq 26 27 80 ?_
             refine zt7 27 28 81 hHeld ?_
             refine zq 28 29 82 ?_
             refine zq 29 30 83 ?_
             refine zq 30 31 84 ?_
             refine done_ (by kernel_rfl) ?_
             clear hHeld
             have HI6 := qab.mk (HI5.out.below HP6.out.2.2.2.2.2.2.out)
             go_wp2
             go_roundw
             case rel => exact ⟨i + 1, by omega, by go_num, ⟨by rw [rfEdges_succ, HS.out]; exact HI6.out⟩⟩
             case measure => simp [intOf]; omega
           ·
            have hd2 : decide (x0 ≤ (y : Int)) = false := decide_eq_false hc2_
            have HS : qab (rfStep l0_1 l1 th y (rfEdges l0_1 l1 th y O2 i) i = O3) := ⟨by rw [HST.out, if_neg hc2_, ← HO3.out]⟩
            clear HST hc1_ hc2_
            refine start_ (n := 31) (S := (fun w' => (w'.cell? ⟨ge, 0, none⟩ = some (.int .i64 (n0 : Int)) ∧ w'.cell? ⟨ge, 1, none⟩ = some (.int .i64 (n1 : Int)) ∧ w'.cell? ⟨ge, 2, none⟩ = some (.int .i64 e2) ∧ w'.cell? (at_.add y) = some (.int .i64 th) ∧ w'.cell? ⟨go, n0, none⟩ = some (.int .i64 x0) ∧ w'.cell? ⟨go, n1, none⟩ = some (.int .i64 x1) ∧ qab (Below w5.heap.size w5 w')))) (ds := []) (msk 31 0) (by kernel_rfl) rfl rfl (HT.out _ (qav (Below.refl _ _))) (fun hHeld => ?_)
            refine zq 0 1 54 ?_
            refine zq 1 2 55 ?_
            refine one_ (i := 2) (N := some 56) (msk 31 3) rfl rfl (by kernel_rfl) (by decide) (fun K hK => ?_)
            refine zg Try.func25 #[.slice A1 l1.length c1, .int .i64 (i : Int)] ?_
            refine (HDY.out _ hHeld.2.2.2.2.2.2.out).mono ?_; rintro e w6 ⟨rfl, hb⟩; have HP6 := qab.mk (HT.out w6 (qae hHeld.2.2.2.2.2.2.out hb)); clear hb; refine ⟨_, rfl, ?_⟩; refine hK.out _ _ HP6.out (fun hHeld => ?_); clear hK K; refine zn 56 ?_
            refine zq 3 4 57 ?_
            refine zq 4 5 58 ?_
            refine zq 5 6 59 ?_
            refine zq 6 7 60 ?_
            refine zq 7 8 61 ?_
            refine zt7 8 9 62 hHeld ?_
            refine zq 9 10 63 ?_
            refine zt7 10 11 64 hHeld ?_
            refine zq 11 12 65 ?_
            refine zq 12 13 66 ?_
            refine zq 13 14 67 ?_
            refine zq 14 15 68 ?_
            refine zq 15 16 69 ?_
            refine zt7 16 17 70 hHeld ?_
            refine zq 17 18 71 ?_
            refine zt7 18 19 72 hHeld ?_
            refine zq 19 20 73 ?_
            refine zq 20 21 74 ?_
            refine zq 21 22 75 ?_
            refine zq 22 23 76 ?_
            refine zo 23 24 77 ?_
            refine zo 24 25 78 ?_
            refine zo 25 26 79 ?_
            refine zo 26 27 80 ?_
            refine zo 27 28 81 ?_
            refine zo 28 29 82 ?_
            refine zo 29 30 83 ?_
            refine zq 30 31 84 ?_
            refine done_ (by kernel_rfl) ?_
            clear hHeld
            have HI6 := qab.mk (HI5.out.below HP6.out.2.2.2.2.2.2.out)
            go_wp2
            go_roundw
            case rel => exact ⟨i + 1, by omega, by go_num, ⟨by rw [rfEdges_succ, HS.out]; exact HI6.out⟩⟩
            case measure => simp [intOf]; omega
          ·
           have hd1 : decide (e2 ≤ th) = false := decide_eq_false hc1_
           have HS : qab (rfStep l0_1 l1 th y (rfEdges l0_1 l1 th y O2 i) i = O3) := ⟨by rw [HST.out, if_neg hc1_, ← HO3.out]⟩
           clear HST hc1_
           refine start_ (n := 31) (S := (fun w' => (w'.cell? ⟨ge, 0, none⟩ = some (.int .i64 (n0 : Int)) ∧ w'.cell? ⟨ge, 1, none⟩ = some (.int .i64 (n1 : Int)) ∧ w'.cell? ⟨ge, 2, none⟩ = some (.int .i64 e2) ∧ w'.cell? (at_.add y) = some (.int .i64 th) ∧ w'.cell? ⟨go, n0, none⟩ = some (.int .i64 x0) ∧ w'.cell? ⟨go, n1, none⟩ = some (.int .i64 x1) ∧ qab (Below w5.heap.size w5 w')))) (ds := []) (msk 31 0) (by kernel_rfl) rfl rfl (HT.out _ (qav (Below.refl _ _))) (fun hHeld => ?_)
           refine zq 0 1 54 ?_
           refine zq 1 2 55 ?_
           refine one_ (i := 2) (N := some 56) (msk 31 3) rfl rfl (by kernel_rfl) (by decide) (fun K hK => ?_)
           refine zg Try.func25 #[.slice A1 l1.length c1, .int .i64 (i : Int)] ?_
           refine (HDY.out _ hHeld.2.2.2.2.2.2.out).mono ?_; rintro e w6 ⟨rfl, hb⟩; have HP6 := qab.mk (HT.out w6 (qae hHeld.2.2.2.2.2.2.out hb)); clear hb; refine ⟨_, rfl, ?_⟩; refine hK.out _ _ HP6.out (fun hHeld => ?_); clear hK K; refine zn 56 ?_
           refine zq 3 4 57 ?_
           refine zq 4 5 58 ?_
           refine zq 5 6 59 ?_
           refine zq 6 7 60 ?_
           refine zq 7 8 61 ?_
           refine zt7 8 9 62 hHeld ?_
           refine zq 9 10 63 ?_
           refine zt7 10 11 64 hHeld ?_
           refine zq 11 12 65 ?_
           refine zq 12 13 66 ?_
           refine zq 13 14 67 ?_
           refine zo 14 15 68 ?_
           refine zo 15 16 69 ?_
           refine zo 16 17 70 ?_
           refine zo 17 18 71 ?_
           refine zo 18 19 72 ?_
           refine zo 19 20 73 ?_
           refine zo 20 21 74 ?_
           refine zq 21 22 75 ?_
           refine zq 22 23 76 ?_
           refine zo 23 24 77 ?_
           refine zo 24 25 78 ?_
           refine zo 25 26 79 ?_
           refine zo 26 27 80 ?_
           refine zo 27 28 81 ?_
           refine zo 28 29 82 ?_
           refine zo 29 30 83 ?_
           refine zq 30 31 84 ?_
           refine done_ (by kernel_rfl) ?_
           clear hHeld
           have HI6 := qab.mk (HI5.out.below HP6.out.2.2.2.2.2.2.out)
           go_wp2
           go_roundw
           case rel => exact ⟨i + 1, by omega, by go_num, ⟨by rw [rfEdges_succ, HS.out]; exact HI6.out⟩⟩
           case measure => simp [intOf]; omega
        ·
         have hiE : i = l0_1.length := by omega
         rw [hiE] at HI
         clear hiE
         go_wp2
         go_roundw
         case rel => exact ⟨m + 1, by omega, by go_num, ⟨by rw [HM.out]; exact HI.out⟩⟩
         case measure => simp [intOf]; omega
      ·
       have hmE : m = P := by omega
       rw [hmE] at HF
       clear hmE
       go_wp2
       go_roundw
       case rel => exact ⟨y + 1, by omega, by go_num, ⟨by rw [HY.out]; exact HF.out⟩⟩
       case measure => simp [intOf]; omega
    ·
     have hyE : y = l2.length := by have := HNN.out; omega
     have HZ : qab (RF w gb #[.int .i64 (P : Int), .slice A0_1 l0_1.length c0_1, .slice A0_2 l0_2.length c0_2, .slice A0_3 l0_3.length c0_3, .slice A0_4 l0_4.length c0_4, .slice A0_5 l0_5.length c0_5] (.slice (some ⟨go, 0, none⟩) P cp) r wr) := ⟨by have h := HF.out; rw [hyE] at h; rw [← HRR.out]; exact h⟩
     clear HF hyE
     have hyl : ¬ y < l2.length := by have := HNN.out; omega
     go_wp2
     go_ret
     exact ⟨_, rfl, HZ.out.o, HZ.out.hb⟩
end Go.Proofs.Ytafkanmioinbiaa.SA
namespace Go.Proofs.Ytafkanmioinbiaa.SA
open Go.RowKit Go.Shelf Go.Proofs.YtafkanmioinbiaaW.PrintWords Go.Proofs.YtafkanmioinbiaaW.PrintLast Go.Proofs.YtafkanmioinbiaaW.PrintMore
attribute [local go_sem] max2_int min2_int max_two min_two qay qaz max_four min_four
def Opens {α : Type} (d : Kd α) (t : TypeId) : Prop := ∀ (H : Type) (enc : TypeId × Value → H) (w : World) (base fuel : Nat) (cs : List Value) (x : DataW H × List MemPlace), DataW.trod enc Try.prog w base (fun _ => true) true fuel t cs = some x → ∃ v, d.K w v cs
theorem opens_int : Opens (Kd.int .i64) 3 := by
 intro H enc w base fuel cs x h
 obtain ⟨n, rfl, _, _⟩ := DataW.trod_int Try.underlying3 h
 exact ⟨n, rfl⟩
theorem cell_of_cells {w : World} {base n : Nat} {a : Addr} {cs : List Value} (h : w.cells? base a n = some cs) : cs.length = n ∧ ∀ i u, cs[i]? = some u → w.cell? (a.add i) = some u := by
 unfold World.cells? at h
 split at h
 ·
  refine ⟨by simpa using mapM_some_length h, fun i u hu => ?_⟩
  have hi : i < n := by
   have h1 := mapM_some_length h
   have h2 := (List.getElem?_eq_some_iff.1 hu).1
   simp at h1
   omega
  have h3 := mapM_some_get h i i (by simp [hi])
  rw [h3]
  exact hu
 ·
  cases h
theorem opens_slice {α : Type} {d : Kd α} {t e : TypeId} (z : α) (ht : Try.prog.underlying t = some (.slice e)) (hz : Try.prog.cellsOf e = d.sz) (hd : Opens d e) : Opens (Kd.slice e d) t := by
 intro H enc w base fuel cs x h
 rcases Deep.open_slice ht h with ⟨rfl, _⟩ | ⟨a, len, cap, m, n, D, Pl, rfl, hb, hl, hm, hmm, _, hel⟩
 ·
  exact ⟨[], none, 0, rfl, Nat.le_refl _, rfl, by simp, fun h => absurd h (by simp)⟩
 ·
  simp only [if_true] at hmm
  subst hmm
  haveI : Inhabited (α × List Value) := ⟨(z, [])⟩
  obtain ⟨F, hF⟩ : ∃ F : Nat → α × List Value, ∀ i, i < len → w.cells? base (a.add (i * Try.prog.cellsOf e)) (Try.prog.cellsOf e) = some (F i).2 ∧ d.K w (F i).1 (F i).2 := by
   have hx : ∀ i, i < len → ∃ q : α × List Value, w.cells? base (a.add (i * Try.prog.cellsOf e)) (Try.prog.cellsOf e) = some q.2 ∧ d.K w q.1 q.2 := fun i hi => by
    obtain ⟨cs', h1, h2⟩ := hel i (by omega)
    obtain ⟨v, hv⟩ := hd H enc w base n cs' _ h2
    exact ⟨(v, cs'), h1, hv⟩
   exact Deep.choose_lt hx
  have hlen : ((List.range len).map fun i => (F i).1).length = len := by simp
  refine ⟨(List.range len).map fun i => (F i).1, some a, m, by rw [hlen], by rw [hlen]; exact hl, rfl, ?_, fun _ => ⟨a, rfl, fun j p hj => ?_⟩⟩
  ·
   rw [hlen]
   have : maxLen ≤ 9223372036854775807 := by decide
   omega
  ·
   obtain ⟨hj1, hj2⟩ := List.getElem?_eq_some_iff.1 hj
   have hjl : j < len := by simpa using hj1
   have hp : p = (F j).1 := by simpa using hj2.symm
   subst hp
   obtain ⟨h1, h2⟩ := hF j hjl
   refine ⟨(F j).2, d.K_len h2, h2, fun i u hu => ?_⟩
   have h3 := (cell_of_cells h1).2 i u hu
   rw [Deep.add_add, hz] at h3
   exact h3
theorem K_pair {α β : Type} {a : Kd α} {b : Kd β} {w : World} {cs : List Value} {o : Nat} {x : α} {y : β} (h1 : a.K w x ((cs.drop o).take a.sz)) (h2 : b.K w y (cs.drop (o + a.sz))) : (Kd.pair a b).K w (x, y) (cs.drop o) :=
 ⟨_, _, by have h := (List.take_append_drop a.sz (cs.drop o)).symm; rwa [List.drop_drop] at h, h1, h2⟩
theorem K_last {α : Type} {a : Kd α} {w : World} {cs : List Value} {o : Nat} {x : α} (h1 : a.K w x ((cs.drop o).take a.sz)) (hl : cs.length = o + a.sz) : a.K w x (cs.drop o) := by
 rwa [List.take_of_length_le (by simp; omega)] at h1
theorem field_of {α : Type} {d : Kd α} {t : TypeId} (hd : Opens d t) (hz : Try.prog.cellsOf t = d.sz) {H : Type} {enc : TypeId × Value → H} {w : World} {base n o : Nat} {cs : List Value} {xs : List (DataW H × List MemPlace)} {i : Nat} (hi : i < xs.length)
  (h : DataW.trod enc Try.prog w base (fun _ => true) true n t ((cs.drop o).take (Try.prog.cellsOf t)) = xs[i]?) : ∃ v, d.K w v ((cs.drop o).take d.sz) := by
 rw [hz, List.getElem?_eq_getElem hi] at h
 exact hd H enc w base n _ _ h
theorem opens_41 : Opens k41 41 := by
 intro H enc w base fuel cs x h
 obtain ⟨xs, n, rfl, rfl, hl, hxl, hf⟩ := DataW.trod_struct Try.underlying41 h
 have hl' : cs.length = 2 := hl.trans (by kernel_rfl)
 have hx : xs.length = 2 := hxl
 obtain ⟨v0, e0⟩ := field_of opens_int (by kernel_rfl) (i := 0) (by omega) (hf 0 _ rfl)
 obtain ⟨v1, e1⟩ := field_of opens_int (by kernel_rfl) (i := 1) (by omega) (hf 1 _ rfl)
 exact ⟨⟨v0, v1⟩, K_pair (o := 0) e0 (K_last (o := 0 + 1) e1 hl')⟩
theorem opens_44 : Opens k44 44 := by
 intro H enc w base fuel cs x h
 obtain ⟨xs, n, rfl, rfl, hl, hxl, hf⟩ := DataW.trod_struct Try.underlying44 h
 have hl' : cs.length = 4 := hl.trans (by kernel_rfl)
 have hx : xs.length = 4 := hxl
 obtain ⟨v0, e0⟩ := field_of opens_int (by kernel_rfl) (i := 0) (by omega) (hf 0 _ rfl)
 obtain ⟨v1, e1⟩ := field_of opens_int (by kernel_rfl) (i := 1) (by omega) (hf 1 _ rfl)
 obtain ⟨v2, e2⟩ := field_of opens_int (by kernel_rfl) (i := 2) (by omega) (hf 2 _ rfl)
 obtain ⟨v3, e3⟩ := field_of opens_int (by kernel_rfl) (i := 3) (by omega) (hf 3 _ rfl)
 exact ⟨⟨v0, v1, v2, v3⟩, K_pair (o := 0) e0 (K_pair (o := 0 + 1) e1 (K_pair (o := 0 + 1 + 1) e2 (K_last (o := 0 + 1 + 1 + 1) e3 hl')))⟩
theorem opens_95 : Opens k95 95 := by
 intro H enc w base fuel cs x h
 obtain ⟨xs, n, rfl, rfl, hl, hxl, hf⟩ := DataW.trod_struct Try.underlying95 h
 have hl' : cs.length = 6 := hl.trans (by kernel_rfl)
 have hx : xs.length = 4 := hxl
 obtain ⟨v0, e0⟩ := field_of opens_int (by kernel_rfl) (i := 0) (by omega) (hf 0 _ rfl)
 obtain ⟨v1, e1⟩ := field_of opens_int (by kernel_rfl) (i := 1) (by omega) (hf 1 _ rfl)
 obtain ⟨v2, e2⟩ := field_of opens_41 (by kernel_rfl) (i := 2) (by omega) (hf 2 _ rfl)
 obtain ⟨v3, e3⟩ := field_of opens_41 (by kernel_rfl) (i := 3) (by omega) (hf 3 _ rfl)
 exact ⟨⟨v0, v1, v2, v3⟩, K_pair (o := 0) e0 (K_pair (o := 0 + 1) e1 (K_pair (o := 0 + 1 + 1) e2 (K_last (o := 0 + 1 + 1 + 2) e3 hl')))⟩
theorem opens_22 : Opens (Kd.slice 44 k44) 22 := opens_slice z44 Try.underlying22 (by kernel_rfl) opens_44
theorem opens_24 : Opens (Kd.slice 41 k41) 24 := opens_slice z41 Try.underlying24 (by kernel_rfl) opens_41
theorem opens_25 : Opens (Kd.slice 95 k95) 25 := opens_slice z95 Try.underlying25 (by kernel_rfl) opens_95
theorem opens_23 : Opens (Kd.slice 3 (Kd.int .i64)) 23 := opens_slice 0 Try.underlying23 (by kernel_rfl) opens_int
def kMap : Kd (Int × List S44 × List Int × List Int × List S41 × List S95) := Kd.pair (Kd.int .i64) (Kd.pair (Kd.slice 44 k44) (Kd.pair (Kd.slice 3 (Kd.int .i64)) (Kd.pair (Kd.slice 3 (Kd.int .i64)) (Kd.pair (Kd.slice 41 k41) (Kd.slice 95 k95)))))
theorem opens_27 : Opens kMap 27 := by
 intro H enc w base fuel cs x h
 obtain ⟨xs, n, rfl, rfl, hl, hxl, hf⟩ := DataW.trod_struct Try.underlying27 h
 have hl' : cs.length = 6 := hl.trans (by kernel_rfl)
 have hx : xs.length = 6 := hxl
 obtain ⟨v0, e0⟩ := field_of opens_int (by kernel_rfl) (i := 0) (by omega) (hf 0 _ rfl)
 obtain ⟨v1, e1⟩ := field_of opens_22 (by kernel_rfl) (i := 1) (by omega) (hf 1 _ rfl)
 obtain ⟨v2, e2⟩ := field_of opens_23 (by kernel_rfl) (i := 2) (by omega) (hf 2 _ rfl)
 obtain ⟨v3, e3⟩ := field_of opens_23 (by kernel_rfl) (i := 3) (by omega) (hf 3 _ rfl)
 obtain ⟨v4, e4⟩ := field_of opens_24 (by kernel_rfl) (i := 4) (by omega) (hf 4 _ rfl)
 obtain ⟨v5, e5⟩ := field_of opens_25 (by kernel_rfl) (i := 5) (by omega) (hf 5 _ rfl)
 exact ⟨(v0, v1, v2, v3, v4, v5), K_pair (o := 0) e0 (K_pair (o := 0 + 1) e1 (K_pair (o := 0 + 1 + 1) e2 (K_pair (o := 0 + 1 + 1 + 1) e3 (K_pair (o := 0 + 1 + 1 + 1 + 1) e4 (K_last (o := 0 + 1 + 1 + 1 + 1 + 1) e5 hl')))))⟩
theorem open_map {H : Type} {enc : TypeId × Value → H} {w : World} {b0 : Nat} {v : Value} {d : DataW H} {p : List MemPlace} (hv : Value.okWide Try.prog w .any b0 27 v) (h : DataW.Trod enc Try.prog w 0 (fun _ => true) true 27 v d p) :
  ∃ (m : Int) (A1 : Option Addr) (c1 : Nat) (l1 : List S44) (A2 : Option Addr) (c2 : Nat) (l2 : List Int) (A3 : Option Addr) (c3 : Nat) (l3 : List Int) (A4 : Option Addr) (c4 : Nat) (l4 : List S41) (A5 : Option Addr) (c5 : Nat) (l5 : List S95), v = .agg #[.int .i64 m, .slice A1 l1.length c1, .slice A2 l2.length c2, .slice A3 l3.length c3, .slice A4 l4.length c4, .slice A5 l5.length c5] ∧
   Kd.C k44 w A1 l1.length l1 ∧ l1.length ≤ c1 ∧ Kd.C (Kd.int .i64) w A2 l2.length l2 ∧ l2.length ≤ c2 ∧ Kd.C (Kd.int .i64) w A3 l3.length l3 ∧ l3.length ≤ c3 ∧ Kd.C k41 w A4 l4.length l4 ∧ l4.length ≤ c4 ∧ Kd.C k95 w A5 l5.length l5 ∧ l5.length ≤ c5 := by
 obtain ⟨cs, rfl, hsz⟩ := WideShapes.okWide_struct Try.underlying27 hv
 obtain ⟨n, hn⟩ := h
 obtain ⟨⟨m, l1, l2, l3, l4, l5⟩, c0, r0, e0, rfl, a1, r1, rfl, ⟨A1, c1, rfl, f1, g1⟩, a2, r2, rfl, ⟨A2, c2, rfl, f2, g2⟩, a3, r3, rfl, ⟨A3, c3, rfl, f3, g3⟩, a4, r4, rfl, ⟨A4, c4, rfl, f4, g4⟩, ⟨A5, c5, rfl, f5, g5⟩⟩ := opens_27 H enc w 0 n _ _ hn
 refine ⟨m, A1, c1, l1, A2, c2, l2, A3, c3, l3, A4, c4, l4, A5, c5, l5, ?_, g1, f1, g2, f2, g3, f3, g4, f4, g5, f5⟩
 have e : cs.toList = [.int .i64 m, .slice A1 l1.length c1, .slice A2 l2.length c2, .slice A3 l3.length c3, .slice A4 l4.length c4, .slice A5 l5.length c5] := by simpa [Value.cells] using e0
 rw [show cs = #[.int .i64 m, .slice A1 l1.length c1, .slice A2 l2.length c2, .slice A3 l3.length c3, .slice A4 l4.length c4, .slice A5 l5.length c5] from Array.toList_inj.1 e]
theorem open_nums {H : Type} {enc : TypeId × Value → H} {w : World} {b0 : Nat} {v : Value} {d : DataW H} {p : List MemPlace} (hv : Value.okWide Try.prog w .any b0 23 v) (h : DataW.Trod enc Try.prog w 0 (fun _ => true) true 23 v d p) :
  ∃ (A : Option Addr) (c : Nat) (l : List Int), v = .slice A l.length c ∧ Kd.C (Kd.int .i64) w A l.length l ∧ l.length ≤ c := by
 obtain ⟨a, len, cap, rfl⟩ := WideShapes.okWide_slice Try.underlying23 hv
 obtain ⟨n, hn⟩ := h
 obtain ⟨l, A, c, e, f, g⟩ := opens_23 H enc w 0 n _ _ hn
 simp [Value.cells] at e
 obtain ⟨rfl, rfl, rfl⟩ := e
 exact ⟨_, _, l, rfl, g, f⟩
end Go.Proofs.Ytafkanmioinbiaa.SA
namespace Go.Proofs.Ytafkanmioinbiaa.SA
open Go.RowKit Go.Proofs.YtafkanmioinbiaaW.PrintWords Go.Proofs.YtafkanmioinbiaaW.PrintLast Go.Proofs.YtafkanmioinbiaaW.PrintMore
attribute [local go_sem] max2_int min2_int max_two min_two qay qaz max_four min_four
def seep_Check.f (a0_0 : Int) (l0_1 : List (S44)) (l0_2 : List Int) (l0_3 : List Int) (l0_4 : List (S41)) (l0_5 : List (S95)) : Option (Int) := (seep_valid.f a0_0 l0_1 l0_2 l0_3 l0_4 l0_5).bind fun t679 => (if t679 = true then (some 0) else (some 2))
theorem seep_Check.calls (a0_0 : Int) (A0_1 : Option Addr) (c0_1 : Nat) (l0_1 : List (S44)) (A0_2 : Option Addr) (c0_2 : Nat) (l0_2 : List Int) (A0_3 : Option Addr) (c0_3 : Nat) (l0_3 : List Int) (A0_4 : Option Addr) (c0_4 : Nat) (l0_4 : List (S41)) (A0_5 : Option Addr) (c0_5 : Nat) (l0_5 : List (S95)) (r : Int) (w : World) (hr0_1 : Kd.C k44 w A0_1 l0_1.length l0_1) (hc0_1 : l0_1.length ≤ c0_1) (hr0_2 : Kd.C (Kd.int .i64) w A0_2 l0_2.length l0_2) (hc0_2 : l0_2.length ≤ c0_2) (hr0_3 : Kd.C (Kd.int .i64) w A0_3 l0_3.length l0_3) (hc0_3 : l0_3.length ≤ c0_3) (hr0_4 : Kd.C k41 w A0_4 l0_4.length l0_4) (hc0_4 : l0_4.length ≤ c0_4) (hr0_5 : Kd.C k95 w A0_5 l0_5.length l0_5) (hc0_5 : l0_5.length ≤ c0_5) (h : seep_Check.f a0_0 l0_1 l0_2 l0_3 l0_4 l0_5 = some r) :
  Calls Try.prog 51 #[.agg #[.int .i64 a0_0, .slice A0_1 l0_1.length c0_1, .slice A0_2 l0_2.length c0_2, .slice A0_3 l0_3.length c0_3, .slice A0_4 l0_4.length c0_4, .slice A0_5 l0_5.length c0_5]] w fun e w' => e = .returned (.int .i64 r) ∧ Below w.heap.size w w' := by
 have hu27 := Try.underlying27
 have HR0_1 := qab.mk hr0_1
 have HC0_1 := qab.mk hc0_1
 clear hr0_1 hc0_1
 have HR0_2 := qab.mk hr0_2
 have HC0_2 := qab.mk hc0_2
 clear hr0_2 hc0_2
 have HR0_3 := qab.mk hr0_3
 have HC0_3 := qab.mk hc0_3
 clear hr0_3 hc0_3
 have HR0_4 := qab.mk hr0_4
 have HC0_4 := qab.mk hc0_4
 clear hr0_4 hc0_4
 have HR0_5 := qab.mk hr0_5
 have HC0_5 := qab.mk hc0_5
 clear hr0_5 hc0_5
 have HB := qab.mk (Below.refl w.heap.size w)
 have H : ((seep_valid.f a0_0 l0_1 l0_2 l0_3 l0_4 l0_5).bind fun t679 => (if t679 = true then (some 0) else (some 2))) = some r := h
 clear h
 replace H := Option.bind_eq_some_iff.mp H
 obtain ⟨t679, A20, H⟩ := H
 try dsimp only at H
 have A2 := qab.mk A20
 clear A20
 by_cases c3 : t679 = true
 ·
  subst c3
  rw [if_pos rfl] at H
  obtain rfl := Option.some.inj H
  go_enter Try.func51, Try.ntmps51
  go_wp2_with (first | ((with_reducible refine qam (N := 1) rfl ?_); refine ze 1 #[.int .i64 a0_0, .slice A0_1 l0_1.length c0_1, .slice A0_2 l0_2.length c0_2, .slice A0_3 l0_3.length c0_3, .slice A0_4 l0_4.length c0_4, .slice A0_5 l0_5.length c0_5] 27 ?_; intro gb678 hg w4 hbox hb; have n0_ := qab.mk (qae (zb HB.out) hb); have n1_ := qab.mk (hbox); have n2_ := qab.mk ((by rw [hg]; exact (qat (zb HB.out)) : w.heap.size ≤ gb678)); have n3_ := qab.mk ((by rw [hg]; exact (qat (zb HB.out)) : w.heap.size ≤ gb678)); clear HB; have HB := n0_; have BK678 := n1_; have GW678 := n2_; have GE678 := n3_; clear n0_ n1_ n2_ n3_; clear hb hbox hg; obtain ⟨hfz_, hcz5_0, hcz5_1, hcz5_2, hcz5_3, hcz5_4, hcz5_5⟩ := qz6 BK678.out) | ((with_reducible refine qbc (f := 66) rfl ?_); refine zl 4 Try.func66 #[.agg #[.int .i64 a0_0, .slice A0_1 l0_1.length c0_1, .slice A0_2 l0_2.length c0_2, .slice A0_3 l0_3.length c0_3, .slice A0_4 l0_4.length c0_4, .slice A0_5 l0_5.length c0_5]] ?_; (with_reducible refine (seep_valid.calls a0_0 _ _ l0_1 _ _ l0_2 _ _ l0_3 _ _ l0_4 _ _ l0_5 true _ ?side1 ?side2 ?side3 ?side4 ?side5 ?side6 ?side7 ?side8 ?side9 ?side10 A2.out).mono ?_); (case side1 => exact zs (Kd.qai HR0_1.out HB.out)); (case side2 => exact HC0_1.out); (case side3 => exact zs (Kd.qai HR0_2.out HB.out)); (case side4 => exact HC0_2.out); (case side5 => exact zs (Kd.qai HR0_3.out HB.out)); (case side6 => exact HC0_3.out); (case side7 => exact zs (Kd.qai HR0_4.out HB.out)); (case side8 => exact HC0_4.out); (case side9 => exact zs (Kd.qai HR0_5.out HB.out)); (case side10 => exact HC0_5.out); rintro e w6 ⟨rfl, hb⟩; refine ⟨_, rfl, ?_⟩; replace BK678 := qab.mk (zk BK678.out hb); replace HB := qab.mk (qae (by repeat (first | (with_reducible first | exact HB.out | apply qag | apply qaf | apply qah | refine qaj ?_ GE678.out) | exact HB.out)) hb); (try clear hb); (try clear hb2); (try clear hk); (try clear hi)))
  go_ret
  exact ⟨by first | rfl | (simp [qaw, qax] <;> rfl) | (simp [*, qaw, qax] <;> rfl), by repeat (first | (with_reducible first | exact HB.out | apply qag | apply qaf | apply qah | refine qaj ?_ GE678.out) | exact HB.out)⟩
 ·
  replace c3 := Bool.eq_false_iff.mpr c3
  subst c3
  rw [if_neg (show ¬ (false = true) by decide)] at H
  obtain rfl := Option.some.inj H
  go_enter Try.func51, Try.ntmps51
  go_wp2_with (first | ((with_reducible refine qam (N := 1) rfl ?_); refine ze 1 #[.int .i64 a0_0, .slice A0_1 l0_1.length c0_1, .slice A0_2 l0_2.length c0_2, .slice A0_3 l0_3.length c0_3, .slice A0_4 l0_4.length c0_4, .slice A0_5 l0_5.length c0_5] 27 ?_; intro gb678 hg w7 hbox hb; have n0_ := qab.mk (qae (zb HB.out) hb); have n1_ := qab.mk (hbox); have n2_ := qab.mk ((by rw [hg]; exact (qat (zb HB.out)) : w.heap.size ≤ gb678)); have n3_ := qab.mk ((by rw [hg]; exact (qat (zb HB.out)) : w.heap.size ≤ gb678)); clear HB; have HB := n0_; have BK678 := n1_; have GW678 := n2_; have GE678 := n3_; clear n0_ n1_ n2_ n3_; clear hb hbox hg; obtain ⟨hfz_, hcz8_0, hcz8_1, hcz8_2, hcz8_3, hcz8_4, hcz8_5⟩ := qz6 BK678.out) | ((with_reducible refine qbc (f := 66) rfl ?_); refine zl 4 Try.func66 #[.agg #[.int .i64 a0_0, .slice A0_1 l0_1.length c0_1, .slice A0_2 l0_2.length c0_2, .slice A0_3 l0_3.length c0_3, .slice A0_4 l0_4.length c0_4, .slice A0_5 l0_5.length c0_5]] ?_; (with_reducible refine (seep_valid.calls a0_0 _ _ l0_1 _ _ l0_2 _ _ l0_3 _ _ l0_4 _ _ l0_5 false _ ?side1 ?side2 ?side3 ?side4 ?side5 ?side6 ?side7 ?side8 ?side9 ?side10 A2.out).mono ?_); (case side1 => exact zs (Kd.qai HR0_1.out HB.out)); (case side2 => exact HC0_1.out); (case side3 => exact zs (Kd.qai HR0_2.out HB.out)); (case side4 => exact HC0_2.out); (case side5 => exact zs (Kd.qai HR0_3.out HB.out)); (case side6 => exact HC0_3.out); (case side7 => exact zs (Kd.qai HR0_4.out HB.out)); (case side8 => exact HC0_4.out); (case side9 => exact zs (Kd.qai HR0_5.out HB.out)); (case side10 => exact HC0_5.out); rintro e w9 ⟨rfl, hb⟩; refine ⟨_, rfl, ?_⟩; replace BK678 := qab.mk (zk BK678.out hb); replace HB := qab.mk (qae (by repeat (first | (with_reducible first | exact HB.out | apply qag | apply qaf | apply qah | refine qaj ?_ GE678.out) | exact HB.out)) hb); (try clear hb); (try clear hb2); (try clear hk); (try clear hi)))
  go_ret
  exact ⟨by first | rfl | (simp [qaw, qax] <;> rfl) | (simp [*, qaw, qax] <;> rfl), by repeat (first | (with_reducible first | exact HB.out | apply qag | apply qaf | apply qah | refine qaj ?_ GE678.out) | exact HB.out)⟩
end Go.Proofs.Ytafkanmioinbiaa.SA
